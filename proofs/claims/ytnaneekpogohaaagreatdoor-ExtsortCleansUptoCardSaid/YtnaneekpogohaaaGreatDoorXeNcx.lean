/- The example of chapter 24 -/
import Derived.Test.YtnaneekpogohaaaGreatDoorXeCox
import Derived.Test.YtnaneekpogohaaaGreatDoorXeKlx
import Derived.Test.YtnaneekpogohaaaGreatDoorXeGAx
import Derived.Test.YtnaneekpogohaaaGreatDoorXeLax
open Go.Am.AV renaming int->zJ
open Go.IntKind renaming i64->J
open List renaming getElem?_cons_zero->zD,getElem?_cons_succ->zE
open Bool renaming not_false->zB,not_true->zC
open Int renaming reduceAdd->zG,reduceLT->zI
open Go.Am.AObj renaming cells->zA,free->zH
open Go.Am.AV renaming int->zF
namespace Go.Am
set_option maxRecDepth 100000
theorem Zwt (H:Hp):Zf TP [.vs 1 .clip [zJ J 40,zJ J 40,zJ J 40],.agg [zJ J 64,zJ J 2]] H=some (.tuple [zJ J 3,zJ J 1],H):=by
 refine Ws (args':=[.vs 1 .clip [zJ J 40,zJ J 40,zJ J 40],.agg [zJ J 64,zJ J 2]]) (H1:=Hz 64 2) rfl ?_ rfl;rw[ZdL];unfold Ac;have h:GD 64 2=true:=rfl;have g:Zk (.slice 3) (.vs 1 .clip [zJ J 40,zJ J 40,zJ J 40])=some (zJ J 3):=rfl;have j:Zo 1 (.vs 1 .clip [zJ J 40,zJ J 40,zJ J 40]) (zJ J 0)=some (.vp [zJ J 40]):=rfl;have u:Zo 1 (.vs 1 .clip [zJ J 40,zJ J 40,zJ J 40]) (zJ J 1)=some (.vp [zJ J 40]):=rfl;have w:Zo 1 (.vs 1 .clip [zJ J 40,zJ J 40,zJ J 40]) (zJ J 2)=some (.vp [zJ J 40]):=rfl;have q:Z5 .quo (zJ J 4) (zJ J 2)=some (zJ J 2):=rfl;simp only[ZkD,go_sem,hza,Zf3,h,zC,Zcr,g]
 iterate 4
  rw[ZcB];simp (disch:=omega) only[go_sem,Zcs,Zcw,Zcx,Zcy,Zcz,j,u,w,Zz,Ka,Zh1,Mk,Dy,Zr,zG,zI,Int.reduceEq,Int.reduceBEq,decide_true,decide_false]
 iterate 2
  rw[ZcA];simp (disch:=omega) only[go_sem,Zct,Zcu,Zcv,Ka,Zh1,Mk,Dy,Zr,zG,Int.reduceSub,zI,q,decide_true,decide_false]
def J1:Zl:=[49,50,51,52,53,54,55,56,57,48,49,50,51,52,53,54,55,56,57,48,49,50,51,52,53,54,55,56,57,48,49,50,51,52,53,54,55,56,57]
def awL:List Zl:=[101::J1,97::J1,100::J1,98::J1,99::J1]
theorem awS:ZM defL plainP awL=[97::J1,98::J1,99::J1,100::J1,101::J1]:=by kernel_rfl
theorem awE:(IY defL plainP 64 2 awL).r=5/\(IY defL plainP 64 2 awL).y=56:=⟨by kernel_rfl,by kernel_rfl⟩
theorem awC:Hy plainP 64 2 awL=0:=by kernel_rfl
theorem Zyz:ZU (.str [48,49,50,51,52,53,54,55,56,57,48,49,50,51,52,53,54,55,56,57,48,49,50,51,52,53,54,55,56,57,48,49,50,51,52,53,54,55,56,57]) (some (zJ J 1)) none none=some (.str J1):=by kernel_rfl
theorem awA (c:UInt8):Yr .add (.str [c]) (.str J1)=some (.str (c::J1)):=rfl
theorem awV:(ZA 1 [(0,.str (101::J1)),(1,.str (97::J1)),(2,.str (100::J1)),(3,.str (98::J1)),(4,.str (99::J1))] [(.str []),(.str []),(.str []),(.str []),(.str [])]).map (AV.vs 1 .clip)=some (.vs 1 .clip (awL.map AV.str)):=rfl
theorem ZtH:∃ H',Kp [] []=some (.bool true,H'):=by
 obtain⟨V,s1,U,s3⟩:=ZnV 262144 (by omega) [];have N:(min (max (262144:Int) 0) 262144).toNat=262144:=rfl;rw[N]at U;have en:Yy (.pointer 82) .eql (.ptr (([]:Hp).length+1) 0) .nilp=some (.bool false):=rfl;obtain⟨ad,g1,g2⟩:=F7 V;have hQ:Qt [] 262145 ⟨262144,0,[],false,0⟩:=⟨rfl,by show 0<=262144;omega,rfl,rfl,⟨by omega,by show 0<=_;omega,.inl rfl⟩,by show 0<=262144;omega⟩;have hB:∀ f∈([]:List Fil),KG UK f.name=false:=fun f hf=>by cases hf
 obtain⟨B,s',S1,r1,r2,r3,r4⟩:=ZkA (w:=2) (mem:=64) g2 Zp7 ZvP (Zyi plainP rfl) (ZxL rfl) (by show 0<=_;omega) (ZxI awL .clip) (by decide) (by decide) AD hB awC (hQ.lft AD) U;rcases r4 with ⟨y,T,C,_⟩|⟨_,M⟩|⟨_,_,h⟩
 rotate_left
 ·have:=M.big;omega
 ·omega
 rw[awS]at C;obtain⟨c1,c2⟩:=awE;have F:(YD [(1,1,(zJ J (-1)))] [.nils,(zJ J 0),(zJ J 0),(.bool false),(.bool false)]).map AV.agg=some (.agg (plainP.cells .nils)):=rfl;have H:(YD [(0,1,(zJ J 64)),(1,1,(zJ J 2))] [(zJ J 0),(zJ J 0)]).map AV.agg=some (.agg [zJ J 64,zJ J 2]):=rfl;have K:(ZA 1 [(0,(zJ J 40)),(1,(zJ J 40)),(2,(zJ J 40))] [(zJ J 0),(zJ J 0),(zJ J 0)]).map (AV.vs 1 .clip)=some (.vs 1 .clip [zJ J 40,zJ J 40,zJ J 40]):=rfl;have ew:((2:Nat):Int)=2:=rfl;rw[ew]at T;have O:=C.len 9;have u:=C.idx (i:=0) (s:=97::J1) rfl;have z:=C.idx (i:=4) (s:=101::J1) rfl;have A:((0:Nat):Int)=0:=rfl;have Q:((4:Nat):Int)=4:=rfl;rw[A]at u;rw[Q]at z;have l1:Zo 1 (.vs 1 .clip (awL.map AV.str)) (zJ J 1)=some (.vp [.str (97::J1)]):=rfl;have l0:Zo 1 (.vs 1 .clip (awL.map AV.str)) (zJ J 0)=some (.vp [.str (101::J1)]):=rfl;have j:(B++[zA [zF .i64 0,zJ J 0,zJ J 0,zJ J 0]])[B.length]?=some (.cells [zF .i64 0,zJ J 0,zJ J 0,zJ J 0]):=by simp
 have g:=WG (off:=0) (sz:=4) (v:=Pw (IY defL plainP 64 2 awL)) j rfl rfl (by simp);have L:=Zs (zA (splice [zF .i64 0,zJ J 0,zJ J 0,zJ J 0] 0 (Pw (IY defL plainP 64 2 awL)).cells)) j;generalize (B++[zA [zF .i64 0,zJ J 0,zJ J 0,zJ J 0]]).set B.length (zA (splice [zF .i64 0,zJ J 0,zJ J 0,zJ J 0] 0 (Pw (IY defL plainP 64 2 awL)).cells))=W at g L;have R:=ZS L 0 (v:=zJ J (IY defL plainP 64 2 awL).r) rfl;have S:=ZS L 2 (v:=zJ J (IY defL plainP 64 2 awL).y) rfl;rw[c1]at R;rw[c2]at S;have f2:∀ o,Z7 2 (.ptr o 0)=some (.ptr o 2):=fun _=>rfl;have X:((0:Int)==0)=true:=rfl;have Z:((3:Int)==3)=true:=rfl;have b5:((5:Int)==5)=true:=rfl;have D:((([97::J1,98::J1,99::J1,100::J1,101::J1]:List Zl).length:Int)==5)=true:=rfl;have E:((56:Int)==56)=true:=rfl;have bs:∀ s:Zl,(s==s)=true:=fun s=>beq_self_eq_true s;have Y:decide ((1:Int)<=1)=true:=rfl;refine⟨W,?_⟩;rw[Zi0];unfold Zem;simp only[s1,go_sem,en,Zgc,Zyz,awA,awV,g1,F,H,T,zD,zE,g,K,Zwt,X,O,D,u,z,l0,l1,Zz,bs,Ka,R,b5,f2,S,E,Z,Y]
theorem P2 (H:Hp):Zf Kp [] H=some (.bool true,H):=by
 obtain⟨H',h⟩:=ZtH;exact Ws (args':=[]) rfl h rfl
set_option linter.unusedSectionVars false
theorem Zy4:zst=Pw ⟨0,0,0,0⟩:=rfl
theorem Zvw {H:Hp}{n:Nat}(y:H[n]?=some .free)(R:Stt):∃ H1 w,Gk n (some (.cells [zJ J 0,zJ J 0,zJ J 0,zJ J 0])) H=some (.ptr n 0,H1)/\Zb 4 (.ptr n 0) (Pw R) H1=some (.tuple [],w)/\Stp [n] H w:=by
 have j:=ZqS (l:=[zF .i64 0,zJ J 0,zJ J 0,zJ J 0]) y;have u:=Zs (zA [zF .i64 0,zJ J 0,zJ J 0,zJ J 0]) y;have g:=WG (off:=0) (sz:=4) (v:=Pw R) u rfl rfl (by simp);exact⟨_,_,j,g,(Stp.set (A:=[n]) H _ (by simp)).trans (Stp.set (A:=[n]) _ _ (by simp)) (fun _ h=>h) fun _ h=>.inl h⟩
theorem Zon {x:AV}{p:Spec}{xp:AV}{mem w:Int}{l:List Zl}(ac:Sl 5 xp (p.keys.map Ke.av))(aa:∀ k∈p.keys,KeOk k)(an:p.keys.length<=1048576)(hx:SS x l)(hL:Wo l)(hl:l.length<=1048576){n:Int}(hn:-9223372036854775808<=n/\n<=9223372036854775807) :
 ∃ H',T9 [.agg (XR p xp mem w),x,zJ J n] []=some (.bool true,H'):=by
 have O:SpecAV (.agg (p.cells xp)) p:=⟨xp,rfl,ac⟩;have D:=Zv4 (p:=p) (xp:=xp) (mem:=mem) (w:=w) [];have e1:([]++[zA (XR p xp mem w)]:Hp)[0]?=some (.cells (XR p xp mem w)):=rfl;have S:Z3 true 7 (.ptr 0 0) ([]++[zA (XR p xp mem w)])=some (.agg (XR p xp mem w)):=ZwO (p:=p) (xp:=xp) (mem:=mem) (w:=w) [];have u:=ZfQ e1;have az:=ZlT e1;obtain⟨b,K,f2⟩:=Zpn hx hl hL ([]++[zA (XR p xp mem w)]);have T:=Zmi (p:=p) (mem:=mem) (w:=w) ac ([]++[zA (XR p xp mem w)]);have f4:=ZsG hx hL hl O mem w ([]++[zA (XR p xp mem w)]);have el:([]:Hp).length=0:=rfl;rw[el]at D;have ao:([]++[zA (XR p xp mem w)]:Hp).length=1:=rfl;generalize ([]++[zA (XR p xp mem w)]:Hp)=H1 at D S u az K T f4 e1 ao;rw[He];unfold Ta
 cases b with
 |false=>exact⟨H1,by simp only[D,go_sem,K,zB,P2]⟩
 |true =>
 obtain⟨ab,L⟩:=f2 rfl
 cases hk:decide ((p.keys.length:Int)<=10) with
 |false=>exact⟨H1,by simp only[D,go_sem,K,zC,S,T,hk,zB,P2]⟩
 |true =>
 cases B:Hy p mem w l != 0 with
 |true=>exact⟨H1,by simp only[D,go_sem,K,zC,S,T,hk,zB,Ka,AJ,u,az,f4,B,P2]⟩
 |false =>
 cases C:decide (n<0) with
 |true=>exact⟨H1,by simp only[D,go_sem,K,zC,S,T,hk,zB,Ka,AJ,u,az,f4,B,C,P2]⟩
 |false =>
 cases M:decide ((10000:Int)<n) with
 |true=>exact⟨H1,by simp only[D,go_sem,K,zC,S,T,hk,zB,Ka,AJ,u,az,f4,B,C,M,P2]⟩
 |false =>
 have E:Hy p mem w l=0:=by simpa using B
 obtain⟨_,ba,bb,bc,bd⟩:=ZnZ E;obtain⟨Y,rfl⟩:∃ Y:Nat,w=(Y:Int):=⟨w.toNat,by omega⟩;rw[decide_eq_false_iff_not]at C M;obtain⟨lim,rfl⟩:∃ lim:Nat,n=(lim:Int):=⟨n.toNat,by omega⟩;have aj:decide ((lim:Int)<0)=false:=by rw[decide_eq_false_iff_not];exact C
 have ak:decide ((10000:Int)<(lim:Int))=false:=by rw[decide_eq_false_iff_not];exact M
 simp only[D,go_sem,K,zC,S,T,hk,zB,Ka,AJ,u,az,f4,B,aj,ak,Sj];obtain⟨j,s1,s2,s3⟩:=ZnV (lim:Int) hn H1;have aw:(min (max (lim:Int) 0) 262144).toNat=lim:=by omega
 rw[aw]at s2;have e2:j[0]?=some (.cells (XR p xp mem (Y:Int))):=by rw[s3,List.getElem?_append_left (by omega)];exact e1
 have l2:H1.length+2<=j.length:=by rw[s3];simp
 have e3:(j++[zH])[0]?=some (.cells (XR p xp mem (Y:Int))):=Y5 e2 _;obtain⟨ad,g1,g2⟩:=F7 (j++[.free]);have ae:=ZfQ e3;have af:=ZlT e3;have h3:StoreAt (j++[zH]) (H1.length+1) ⟨lim,0,[],false,0⟩ [H1.length+1,H1.length]:=s2.stp (Stp.push (A:=[]) _ _) fun a _ h=>by cases h
 have hQ:Qt [] lim ⟨lim,0,[],false,0⟩:=⟨by show lim=min lim 262144;omega,by show 0<=_;omega,rfl,rfl,⟨by omega,by show 0<=_;omega,.inl rfl⟩,by show 0<=_;omega⟩;obtain⟨H4,s',S1,r1,r2,r3,r4⟩:=ZkA g2 Zp7 ZvP O aa an hx ab L AD (fun f hf=>by cases hf) E (hQ.lft AD) h3;have al:(j++[zH])[j.length]?=some .free:=by simp
 have nn:∀ i,i≠H1.length+1->i≠H1.length->i∉[H1.length+1,H1.length]:=fun i h1 h2 hm=>by simp at hm;omega
 have am:=r2.get al (nn _ (by omega) (by omega));have e4:=r2.get e3 (nn 0 (by omega) (by omega))
 have ai:∀ z∈S1,z≠j.length:=fun z hz h=>by
  rcases r3 z hz with k|k
  ·simp at k;omega
  ·simp at k;omega
 have F:∀ R:Stt,∃ Q g,Gk (j.length+0) (some (.cells [zJ J 0,zJ J 0,zJ J 0,zJ J 0])) H4=some (.ptr j.length 0,Q)/\Zb 4 (.ptr j.length 0) (Pw R) Q=some (.tuple [],g)/\StoreAt g (H1.length+1) s' S1/\g[0]?=some (.cells (XR p xp mem (Y:Int))):=fun R=>by
  obtain⟨Q,g,k1,V,W⟩:=Zvw am R;exact⟨Q,g,k1,V,r1.stp W fun a ha h=>ai a ha (List.mem_singleton.1 h),W.get e4 (by simp;omega)⟩
 have key:∀ g:Hp,Qt [] lim s'->StoreAt g (H1.length+1) s' S1->∃ Z,G1 Xh [.ptr (H1.length+1) 0] g=some (Z,g)/\Zk (.slice 108) Z=some (zJ J 0):=fun g U au=>by
  obtain⟨Z,n1,X⟩:=Zij au (U.sto AD);rw[U.files]at X;exact⟨Z,n1,Sl.len X 108⟩
 have e0:((0:Int) != 0)=false:=rfl;have ah:((12:Int) != 0)=true:=rfl;have ag:((0:Int)==0)=true:=rfl;have H:((12:Int)==12)=true:=rfl;rcases r4 with ⟨y,q1,q2,U⟩|⟨_,ap⟩|⟨q1,U,_⟩
 ·obtain⟨Q,g,k1,V,W,k4⟩:=F (IY defL p mem Y l);obtain⟨Z,n1,X⟩:=key g U W;obtain⟨ay,v1,v2⟩:=F7 g;have ax:=ZfQ k4;obtain⟨y6,w1,w2⟩:=ZjJ v2 Zp7 O aa hx hL hl g;have ar:(ZM defL p l).length<=1048576:=Nat.le_trans (Zdk defL p l) hl;have N:=ZnI q2 w2 ar g;refine⟨g,?_⟩;simp only[s1,go_sem,g1,Ka,AJ,ae,af,q1,zD,zE,k1,V,n1,X,e0,B6,Sk,v1,ax,w1,N,P2]
 ·have:=ap.big;omega
 ·obtain⟨Q,g,k1,V,W,k4⟩:=F ⟨0,0,0,0⟩;obtain⟨Z,n1,X⟩:=key g U W;rw[<-Zy4]at V;have aq:Zk (.slice 9) .nils=some (zJ J 0):=rfl;refine⟨g,?_⟩;simp only[s1,go_sem,g1,Ka,AJ,ae,af,q1,zD,zE,k1,V,n1,X,e0,B6,ah,aq,ag,H,P2]
end Go.Am
