/- The files that are left of an owner -/
import Derived.Test.YtnaneekpogohaaaGreatDoorXeSmx
import Derived.Test.YtnaneekpogohaaaGreatDoorXeQcx
import Derived.Test.YtnaneekpogohaaaGreatDoorXeLax
open List renaming mem_singleton->zA,length_singleton->zE,length_append->zF,append_nil->zG,getElem?_append_right->zI,getElem?_append_left->zJ,length_map->zM,append_assoc->zQ,map_append->zU,mapM_cons->zV
open Nat renaming le_trans->zH,le_refl->zK,zero_add->zL
open Bool renaming not_true->zC,not_false->zD,false_and->zN,true_and->zO,eq_iff_iff->zT
open Int renaming toNat_natCast->zP
open Go.Am.AObj renaming cells->zB,free->zR
open Go.Am.AV renaming int->zS,str->zW
namespace Go.Am
set_option linter.unusedSectionVars false
set_option maxRecDepth 100000
def Zwy (s:Zm):Bool:=s.all O1&&(!s.isEmpty&&!(s.headD 0==48))
theorem ZvA (b:UInt8):O1 b=(!decide ((b.toNat:Int)<48)&&!decide ((57:Int)<(b.toNat:Int))):=by
 rw[zT];simp[O1,UInt8.le_iff_toNat_le];omega
theorem ZnL (s:Zm)(g H:Hp):JA (.str s) g H=some (.bool (!s.isEmpty&&!(s.headD 0==48)),H):=by
 rw[SC]
 cases s with
 |nil =>
  have:(!(([]:Zm)==[]))=false:=rfl;simp only[go_sem,YK,JO,this,List.isEmpty_nil,zC,zN]
 |cons b l =>
  have:(!((b::l)==([]:Zm)))=true:=rfl;have hi:Zw (.str (b::l)) (.int .i64 0)=some (.int .u8 (b.toNat:Int)):=Y1 (i:=0) rfl
  have u:(((b.toNat:Int)) != 48)=!(b==48):=by
   by_cases h:b=48
   ·subst h;rfl
   ·have w:b.toNat≠48:=fun e=>h (UInt8.toNat_inj.1 e);have j:(b==48)=false:=by simpa using h
    rw[j];simp;omega
  simp only[go_sem,YK,JO,this,hi,u,List.isEmpty_cons,zD,zO,List.headD_cons]
theorem Zkg (s:Zm)(D:s.length<=1048576)(y H:Hp):∀ (k i:Nat),s.length-i=k->i<=s.length ->
 VK (.str s) (.int .i64 (s.length:Int)) (.int .i64 (i:Int)) y H=some (.bool ((s.drop i).all O1&&(!s.isEmpty&&!(s.headD 0==48))),H):=by
 intro k
 induction k with
 |zero =>
  intro i A hi;rw[Bg];have j:decide ((i:Int)<(s.length:Int))=false:=by simp;omega
  have z:s.drop i=[]:=List.drop_eq_nil_iff.2 (by omega);simp only[go_sem,j,ZnL,z,List.all_nil,zO]
 |succ k B =>
  intro i A hi;rw[Bg];have w:i<s.length:=by omega
  have j:decide ((i:Int)<(s.length:Int))=true:=by simp;omega
  have hw:IntKind.i64.wrap ((i:Int)+1)=((i+1:Nat):Int):=by rw[Zr (by omega) (by omega)];omega
  have g:Zw (.str s) (.int .i64 (i:Int))=some (.int .u8 (s[i].toNat:Int)):=Y1 (List.getElem?_eq_getElem w);rw[List.drop_eq_getElem_cons w,List.all_cons,ZvA s[i]];simp only[go_sem,j,SD,g]
  cases C:decide ((s[i].toNat:Int)<48) with
  |true=>simp only[go_sem,zC,zN]
  |false =>
   cases u:decide ((57:Int)<(s[i].toNat:Int)) with
   |true=>simp only[go_sem,g,u,zC,zD,zN,Bool.and_false]
   |false =>
    simp only[go_sem,g,u,zD,Bool.and_true,zO,SE,hw];exact B (i+1) (by omega) (by omega)
theorem Zkf (s:Zm)(g:s.length<=1048576)(H:Hp):Zf K2 [.str s] H=some (.bool (Zwy s),H):=by
 refine Xy (a':=.str s) rfl (H1:=[]) ?_ rfl;rw[Hq];unfold RY;simp only[go_sem];exact Zkg s g [] [] s.length 0 rfl (by omega)
def Sa (g n:Zm):Bool:=decide ((XT g).length<n.length)&&((n.take (XT g).length==XT g)&&Zwy (n.drop (XT g).length))
def Qr (g:Zm)(fs:List Fil):List Zm:=(fs.map Fil.name).filter (Sa g)
def UW (g:Zm)(s:Sto):List Zm:=if Q8 g then Qr g (Us s.files) else []
theorem Ztc (g:Zm)(a b:List Fil):Qr g (a++b)=Qr g a++Qr g b:=by
 unfold Qr;rw[zU,List.filter_append]
theorem Zjs (g:Zm)(a:List Fil):(Qr g a).length<=a.length:=by
 unfold Qr;exact zH (List.length_filter_le _ _) (by simp)
theorem Ztf {z:Hp}{g:Zm}(ho:g.length<=1048576){x:AV}{fs:List Fil}(hx:Sl 3 x (fs.map Yj))(hl:fs.length<=64)(hn:∀ f∈fs,f.name.length<=1048576)(HB:Hp):∀ (r d:List Fil) (J:AV) (H:Hp),fs=d++r ->
 RowN z.length H 1 J ((Qr g d).map zW)->Keep z.length z H->z.length<=H.length ->
 ∃ y H',Jw J (.str (XT g)) x (.int .i64 (fs.length:Int)) (.int .i64 (d.length:Int)) HB H=some (y,H')/\RowN z.length H' 1 y ((Qr g fs).map zW)/\Keep z.length z H'/\z.length<=H'.length:=by
 have ak:(XT g).length=g.length+6:=by simp[XT]
 intro r
 induction r with
 |nil =>
  intro d J H F Z hK A;rw[zG]at F;subst F;have L:decide ((fs.length:Int)<(fs.length:Int))=false:=by simp
  rw[Tu];simp only[go_sem,L,Zb8];exact⟨_,_,rfl,Z,hK,A⟩
 |cons f r V =>
  intro d J H F Z hK A;have ab:fs.length=d.length+(r.length+1):=by rw[F];simp
  have L:decide ((d.length:Int)<(fs.length:Int))=true:=by simp;omega
  have I:IntKind.i64.wrap ((d.length:Int)+1)=((d.length+1:Nat):Int):=by rw[Zr (by omega) (by omega)];omega
  have T:fs[d.length]?=some f:=by rw[F,zI (zK _)];simp
  have aj:=hn f (List.mem_of_getElem? T);have S:Zo 3 x (.int .i64 (d.length:Int))=some (.vp (Yj f).cells):=Sl.idx hx (c:=Yj f) (by simp[T]);have w:(H++[zB [.str [],.int .i64 0,.int .i64 0]])[H.length]?=some (.cells [.str [],.int .i64 0,.int .i64 0]):=by simp
  have ae:Ze 3 (.ptr H.length 0) (Yj f) (H++[zB [.str [],.int .i64 0,.int .i64 0]])=some (.tuple [],H++[zB (Yj f).cells]):=by
   rw[VP (v:=Yj f) (sz:=3) w rfl rfl (by simp)];simp[splice,Yj,AV.cells]
  have g1:(H++[zB (Yj f).cells])[H.length]?=some (.cells (Yj f).cells):=by simp
  have W:=ZT g1 0 (v:=.str f.name) rfl;have D:Keep z.length z (H++[zB (Yj f).cells]):=hK.trans (Keep.push H A _)
  have C:RowN z.length (H++[zB (Yj f).cells]) 1 J ((Qr g d).map zW):=by
   rcases Z with k|⟨t,e,k1,k2,k3⟩
   ·exact .inl k
   ·exact .inr ⟨t,e,k1,Yg k2 _,k3⟩
  have ai:(Qr g d).length<=d.length:=Zjs _ _;have U:(ZE 1 [(0,.str f.name)] [(.str [])]).map (AV.vs 1 .clip)=some (.vs 1 .clip [.str f.name]):=Pc _;obtain⟨x',H1,q1,q2,q3,q4,_⟩:=C.app (by simp;omega) 16 (.vs 1 .clip [.str f.name]) [.str f.name] rfl (by simp;omega)
  have j:Qr g (d++[f])=Qr g d++(if Sa g f.name then [f.name] else []):=by
   rw[Ztc];congr 1;unfold Qr;cases E:Sa g f.name <;> simp[E]
  rw[Tu]
  have aa:Z5 .gtr (.int .i64 (f.name.length:Int)) (.int .i64 ((XT g).length:Int))=some (.bool (decide ((XT g).length<f.name.length))):=by
   simp only[go_sem];congr 2;rw[zT];simp
  have X:Zk .string (.str (XT g))=some (.int .i64 ((XT g).length:Int)):=rfl;have Y:Zk .string (.str f.name)=some (.int .i64 (f.name.length:Int)):=rfl;simp only[go_sem,L,Zb9,S,ZlW,ae,X,Y,zL,W,aa]
  cases w:decide ((XT g).length<f.name.length) with
  |false =>
   have E:Sa g f.name=false:=by unfold Sa;rw[w];rfl
   rw[E,if_neg (by simp),zG]at j;obtain⟨Q,u,B,M,N,O⟩:=V (d++[f]) J (H++[zB (Yj f).cells]) (by rw[F];simp) (by rw[j];exact C) D (by simp;omega);rw[zF,zE]at B;refine⟨Q,u,?_,M,N,O⟩;simp only[go_sem,Uw,I];exact B
  |true =>
   have ah:(XT g).length<f.name.length:=of_decide_eq_true w
   have af:Y8 (.str f.name) none (some (.int .i64 ((XT g).length:Int))) none=some (.str (f.name.take (XT g).length)):=by
    rw[Zgv .i64 (by omega) (by omega),zP]
   have ag:Y8 (.str f.name) (some (.int .i64 ((XT g).length:Int))) none none=some (.str (f.name.drop (XT g).length)):=by
    rw[MJ .i64 (by omega) (by omega),zP]
   have ad:YK .eql (.str (f.name.take (XT g).length)) (.str (XT g))=some (.bool (f.name.take (XT g).length==XT g)):=rfl;have ac:=Zkf (f.name.drop (XT g).length) (by rw[List.length_drop];omega);simp only[go_sem,zL,W,af,ad]
   cases K:(f.name.take (XT g).length==XT g) with
   |false =>
    have E:Sa g f.name=false:=by unfold Sa;rw[w,K];rfl
    rw[E,if_neg (by simp),zG]at j;obtain⟨Q,u,B,M,N,O⟩:=V (d++[f]) J (H++[zB (Yj f).cells]) (by rw[F];simp) (by rw[j];exact C) D (by simp;omega);rw[zF,zE]at B;refine⟨Q,u,?_,M,N,O⟩;simp only[go_sem,Uw,I];exact B
   |true =>
    simp only[go_sem,zL,W,ag,ac]
    cases R:Zwy (f.name.drop (XT g).length) with
    |false =>
     have E:Sa g f.name=false:=by unfold Sa;rw[w,K,R];rfl
     rw[E,if_neg (by simp),zG]at j;obtain⟨Q,u,B,M,N,O⟩:=V (d++[f]) J (H++[zB (Yj f).cells]) (by rw[F];simp) (by rw[j];exact C) D (by simp;omega);rw[zF,zE]at B;refine⟨Q,u,?_,M,N,O⟩;simp only[go_sem,Uw,I];exact B
    |true =>
     have E:Sa g f.name=true:=by unfold Sa;rw[w,K,R];rfl
     rw[E,if_pos rfl]at j;obtain⟨Q,u,B,M,N,O⟩:=V (d++[f]) x' H1 (by rw[F];simp) (by rw[j,zU];exact q2) (D.trans q4) q3;rw[zF,zE]at B;refine⟨Q,u,?_,M,N,O⟩;simp only[go_sem,zL,W,U,q1,Uw,I];exact B
theorem ZlJ {l:List Fil}{n:Zm}{f:Fil}(h:ZN l n=some f):f∈l:=by
 obtain⟨a,b,e,_⟩:=Zqi h;rw[e];simp
theorem Zti {l:List Fil}{f:Fil}(h:f∈Us l):f∈l:=by
 unfold Us at h;obtain⟨n,_,g⟩:=List.mem_filterMap.1 h;exact ZlJ g
theorem Zjt (l:List Fil):(Us l).length<=l.length:=by
 unfold Us;refine zH (List.length_filterMap_le _ _) ?_;rw[(Gx _).length_eq,zM];exact zK _
theorem ZxU {H:Hp}{t:Nat}{s:Sto}{S:List Nat}(h:StoreAt H t s S)(B:StoOk s)(g:Zm)(D:g.length<=1048576):∃ x,QN Kb [.ptr t 0,.str g] H=some (x,H)/\SS x (UW g s):=by
 have A:=ZjD g D H;have w:∀ u,YC (.pointer u) .eql (.ptr t 0) .nilp=some (.bool false):=fun _=>rfl
 cases j:Q8 g with
 |false =>
  rw[j]at A;refine⟨.nils,EB (H1:=H) (v:=.nils) ?_ (Keep.refl _ _) (zK _) rfl,.inl ⟨rfl,by unfold UW;rw[j];rfl⟩⟩;rw[PQ];unfold FS;simp only[go_sem,w,A,zD]
 |true =>
  rw[j]at A;obtain⟨x,U,J⟩:=Zie h B
  have E:∀ u,Zk (.slice u) x=some (.int .i64 ((Us s.files).length:Int)):=fun u=>by
   have:=Sl.len J u
   rwa [zM]at this
  have N:=Zjt s.files;have M:=B.len;obtain⟨y,H1,R,T,F,I⟩:=Ztf D J (by omega) (fun f L=>zH (Zm3 (B.name f (Zti L))) (by omega)) H (Us s.files) [] .nils H rfl (.inl ⟨rfl,rfl⟩) (Keep.refl _ _) (zK _)
  have z:Kb [.ptr t 0,.str g] H=some (y,H1):=by
   rw[PQ];unfold FS;simp only[go_sem,w,A,zC,Zb7,Zhw g D,U,E];exact R
  have C:UW g s=Qr g (Us s.files):=by unfold UW;rw[j];rfl
  rw[C];rcases T with ⟨rfl,O⟩|⟨K,e,rfl,V,Q⟩
  ·exact⟨.nils,EB z F I rfl,.inl ⟨rfl,O⟩⟩
  ·refine⟨.vs 1 (if K<H.length then .own K e else .no) ((Qr g (Us s.files)).map zW),EB z F I (by rw[MN,AW (fun x E=>by obtain⟨n,_,rfl⟩:=List.mem_map.1 E;rfl)]),.inr ⟨_,rfl⟩⟩
theorem StoRes.trans {H H1 j:Hp}{o:Nat}{y u:Sto}{A A1 A2:List Nat}(h:StoRes H H1 o y A A1)(k:StoRes H1 j o u A1 A2):StoRes H j o u A A2 :=
 ⟨k.at',h.stp.trans k.stp (fun _ h=>h) (fun a g=>h.own a g),fun a g=>(k.own a g).elim (h.own a) fun w=>.inr (zH h.stp.len w)⟩
structure ROk (s:Sto):Prop where
  sto:StoOk s
  cnt:s.crashed=true->s.count=0
theorem Zxp {s:Sto}(h:StoOk s):StoOk s.tick:=by
  have:=h.count;unfold Sto.tick;split
  · exact h
  · split
    · exact⟨h.limit,h.used,h.peak,h.name,h.nd,h.syn,h.len,by simp⟩
    · exact⟨h.limit,h.used,h.peak,h.name,h.nd,h.syn,h.len,by show s.count-1<=9223372036854775807;omega⟩
theorem ROk.tick {s:Sto}(h:ROk s):ROk s.tick:=⟨Zxp h.sto,by
  unfold Sto.tick;split
  · exact h.cnt
  · split
    · exact fun _=>rfl
    · rename_i g _
      exact fun j=>absurd j g⟩
theorem ZqZ {s:Sto}(h:ROk s)(n:Zm):ROk (s.remove n).2:=by
  have g:=h.tick;unfold Sto.remove;split
  · exact g
  · split
    · exact g
    · have:=ZxP g.sto n
      rw[VM]at this;exact⟨this,g.cnt⟩
def Vu:List Zm->Sto->Int×Sto
  |[],s=>(0,s)
  |n::r,s=>if (s.remove n).1≠0 then s.remove n else Vu r (s.remove n).2
theorem Ztd (g:Zm){s:Sto}(h:StoOk s):(UW g s).length<=64:=by
  unfold UW;split
  · exact zH (Zjs _ _) (zH (Zjt _) h.len)
  · simp
theorem Zrg {t:Nat}{x:AV}{ns:List Zm}(hx:SS x ns)(hl:ns.length<=64)(ow lim:AV)(HB:Hp):∀ (r d:List Zm) (H:Hp) (S:List Nat) (s:Sto),ns=d++r->StoreAt H t s S->ROk s ->
    ∃ H' S',Jz (.ptr t 0) ow lim x (.int .i64 (ns.length:Int)) (.int .i64 (d.length:Int)) HB H=(if (Vu r s).1≠0 then some (.tuple [.nilp,.int .i64 (Vu r s).1],H') else Jx (.ptr t 0) ow lim HB H')/\StoRes H H' t (Vu r s).2 S S':=by
  intro r
  induction r with
  |nil =>
    intro d H S s hd h hk;rw[zG]at hd;subst hd;have hlt:decide ((ns.length:Int)<(ns.length:Int))=false:=by simp
    refine⟨H,S,?_,⟨h,Stp.refl _ _,fun a ha=>.inl ha⟩⟩;rw[Tx,Vu,if_neg (by simp)];simp only[go_sem,hlt]
  |cons n r ih =>
    intro d H S s hd h hk;have hlen:ns.length=d.length+(r.length+1):=by rw[hd];simp
    have hlt:decide ((d.length:Int)<(ns.length:Int))=true:=by simp;omega
    have hw1:IntKind.i64.wrap ((d.length:Int)+1)=((d.length+1:Nat):Int):=by rw[Zr (by omega) (by omega)];omega
    have hin:ns[d.length]?=some n:=by rw[hd,zI (zK _)];simp
    have hidx:=SS.idx hx hin;obtain⟨H1,S1,q1,q2⟩:=IE h hk.sto n;rw[Tx];by_cases he:(s.remove n).1=0
    · have e0:((s.remove n).1 != 0)=false:=by rw[he];rfl
      have hor:Vu (n::r) s=Vu r (s.remove n).2:=by rw[Vu,if_neg (by simp[he])]
      obtain⟨H2,S2,r1,r2⟩:=ih (d++[n]) H1 S1 _ (by rw[hd];simp) q2.at' (ZqZ hk n);rw[zF,zE]at r1;rw[hor];refine⟨H2,S2,?_,q2.trans r2⟩;simp only[go_sem,hlt,Tw,hidx,ZC,q1,e0,Zbb,hw1];exact r1
    · have e0:((s.remove n).1 != 0)=true:=by simpa using he
      have hor:Vu (n::r) s=s.remove n:=by rw[Vu,if_pos he]
      rw[hor];refine⟨H1,S1,?_,q2⟩;rw[if_pos he];simp only[go_sem,hlt,Tw,hidx,ZC,q1,e0]
theorem Zxq {H:Hp}{t:Nat}{s:Sto}{S:List Nat}(h:StoreAt H t s S)(ow:Zm)(lim:Int)(HB:Hp) :
    ∃ H',Jx (.ptr t 0) (.str ow) (.int .i64 lim) HB H=some (.tuple [.ptr (H.length+1) 0,.int .i64 0],H')/\SysAt H' (H.length+1) t ⟨ow,[],[],(max 0 lim).toNat,0,false⟩ s ([H.length+1,H.length]++S)/\Stp [] H H':=by
  have hf1:(Xh [(0,1,.ptr t 0),(1,1,.str ow),(3,1,.map H.length)] [.nilp,(.str []),.nils,.nilm]).map AV.agg=some (.agg [.ptr t 0,.str ow,.nils,.map H.length]):=rfl;have hf2:(Xh [(0,4,.agg [.ptr t 0,.str ow,.nils,.map H.length]),(4,1,.int .i64 (max 0 lim))] [.nilp,(.str []),.nils,.nilm,(.int .i64 0),(.int .i64 0),(.bool false)]).map AV.agg=some (.agg [.ptr t 0,.str ow,.nils,.map H.length,.int .i64 (max 0 lim),.int .i64 0,.bool false]):=rfl;have hb:∀ l:List AV,ZM (.agg l) (H++[.map [] 0])=some (.ptr (H.length+1) 0,H++[.map [] 0]++[.cells l]):=fun l=>by rw[Fi rfl];simp[AV.cells]
  have hl:((max 0 lim).toNat:Int)=max 0 lim:=by omega
  refine⟨H++[.map [] 0]++[.cells [.ptr t 0,.str ow,.nils,.map H.length,.int .i64 (max 0 lim),.int .i64 0,.bool false]],?_,⟨[H.length+1,H.length],S,⟨H.length,0,.nils,[],⟨?_,.inl ⟨rfl,rfl⟩,?_,rfl,by simp[ZG]⟩,rfl⟩,h.frame fun a ha=>?_,fun a ha hs=>?_,rfl⟩,?_⟩
  · rw[Zba]
    simp only[go_sem,hf1,hf2,hb]
  · simp[hl]
  · simp
  · rw[zQ,zJ (h.lt a ha)]
  · have:=h.lt a hs
    simp at ha;omega
  · rw[zQ];exact Stp.push _ _
theorem ZrC {H:Hp}{t:Nat}{s:Sto}{S:List Nat}(h:StoreAt H t s S)(hk:ROk s)(ow:Zm)(ho:ow.length<=1048576)(lim:Int) :
    ∃ p e H',UN [.ptr t 0,.str ow,.int .i64 lim] H=some (.tuple [p,.int .i64 e],H') /\
      (Q8 ow=false/\p=.nilp/\e=4/\H'=H \/
       Q8 ow=true/\(Vu (UW ow s) s).1≠0/\p=.nilp/\e=(Vu (UW ow s) s).1/\(∃ S',StoRes H H' t (Vu (UW ow s) s).2 S S') \/
       Q8 ow=true/\(Vu (UW ow s) s).1=0/\e=0/\∃ o A',p=.ptr o 0/\H.length<=o/\SysAt H' o t ⟨ow,[],[],(max 0 lim).toNat,0,false⟩ (Vu (UW ow s) s).2 A'/\Stp S H H'/\∀ a∈A',a∈S\/H.length<=a):=by
  have hnil:∀ u,YC (.pointer u) .eql (.ptr t 0) .nilp=some (.bool false):=fun _=>rfl;have hv:=ZjD ow ho H;rw[Zbu];unfold SP
  cases hvs:Q8 ow with
  |false =>
    rw[hvs]at hv;exact⟨.nilp,4,H,by simp only[hnil,go_sem,K8,hv,zD],.inl ⟨rfl,rfl,rfl,rfl⟩⟩
  |true =>
    rw[hvs]at hv;obtain⟨x,l1,l2⟩:=ZxU h hk.sto ow ho;have hx:∀ u,Zk (.slice u) x=some (.int .i64 ((UW ow s).length:Int)):=fun u=>l2.len u;obtain⟨H1,S1,q1,q2⟩:=Zrg l2 (Ztd ow hk.sto) (.str ow) (.int .i64 lim) H (UW ow s) [] H S s rfl h hk;simp only[List.length_nil]at q1;by_cases he:(Vu (UW ow s) s).1=0
    · rw[if_neg (by simp[he])]at q1
      obtain⟨H2,k1,k2,k3⟩:=Zxq q2.at' ow lim H;refine⟨.ptr (H1.length+1) 0,0,H2,?_,.inr (.inr ⟨rfl,he,rfl,H1.length+1,_,rfl,?_,k2,q2.stp.trans k3 (fun _ h=>h) (fun a ha=>by cases ha),fun a ha=>?_⟩)⟩
      · simp only[hnil,go_sem,K8,hv,zC,Tv,l1,hx]
        exact q1.trans k1
      · have:=q2.stp.len;omega
      · have:=q2.stp.len
        rcases List.mem_append.1 ha with ha|ha
        · simp at ha
          exact .inr (by omega)
        · exact q2.own a ha
    · rw[if_pos he]at q1
      refine⟨.nilp,_,H1,?_,.inr (.inl ⟨rfl,he,rfl,rfl,S1,q2⟩)⟩;simp only[hnil,go_sem,K8,hv,zC,Tv,l1,hx];exact q1
theorem ZnU {x y:AV}{l:List Zj}(E:SS x l)(I:SS y l)(K:l.length<=1048576)(F H:Hp):∀ (r d:List Zj),l=d++r->Pu x y (.int .i64 (d.length:Int)) F H=some (.bool true,H):=by
 have D:=SS.len E 9;intro r
 induction r with
 |nil =>
  intro d j;rw[zG]at j;subst j;have g:decide ((l.length:Int)<(l.length:Int))=false:=by simp
  rw[AB];simp only[go_sem,D,g,Zia]
 |cons s r J =>
  intro d j;have C:l.length=d.length+(r.length+1):=by rw[j];simp
  have g:decide ((d.length:Int)<(l.length:Int))=true:=by rw[decide_eq_true_eq];omega
  have u:l[d.length]?=some s:=by rw[j,zI (zK _)];simp
  have w:=SS.idx E u;have z:=SS.idx I u;have B:IntKind.i64.wrap ((d.length:Int)+1)=((d++[s]).length:Int):=by rw[Zr (by omega) (by omega)];simp
  have A:(s==s)=true:=beq_self_eq_true _;have:=J (d++[s]) (by rw[j];simp);rw[AB];simp only[go_sem,D,g,Zib,w,z,ZC,A,zC,Zic,B];exact this
theorem ZnT {x y:AV}{l:List Zj}(C:SS x l)(D:SS y l)(z:l.length<=1048576)(H:Hp):Zf Is [x,y] H=some (.bool true,H):=by
 obtain⟨F,w,j⟩:=SS.closed C [] 0 7;obtain⟨I,E,u⟩:=SS.closed D [] 0 7;have B:=SS.len j 9;have A:=SS.len u 9;have g:((l.length:Int) != (l.length:Int))=false:=by simp
 refine Vn (args':=[F,I]) (H1:=[]) (by rw[zV,w,zV,E];rfl) ?_ rfl;rw[ZjU];unfold ZfT;simp only[go_sem,B,A,g,Zi9];exact ZnU j u z [] [] l [] rfl
def Pz:Zm:=[100,97,116,97]
def Zdu:Zm:=[107,101,112,116]
def MP (n:Nat):Fil:=⟨Pz,Zdu,n⟩
theorem Zte {n k pk:Nat}:UW HU ⟨262144,pk,[MP n],false,k⟩=[]:=by
 show UW HU ⟨262144,0,[MP 0],false,0⟩=[];kernel_rfl
theorem ZwT {n pk:Nat}(u:n<=4)(j:pk<=262144)(w:4<=pk):ROk ⟨262144,pk,[MP n],false,0⟩ :=
 ⟨⟨by show 262144<=262144;omega,by show 4<=262144;omega,by first|exact j|exact⟨by show 4<=pk;omega,j⟩,fun f g=>by rw[zA.1 g];kernel_rfl,by simp,fun f g=>by rw[zA.1 g];exact u,by simp,by simp⟩,fun h=>by cases h⟩
theorem ZyU {t:Nat}{s:Sto}(u:ROk s)(g:UW HU s=[]):ZrA t s:=fun H S h=>by
 obtain⟨p,e,H',w,y⟩:=ZrC h u HU (by show 4<=_;omega) 262144;rcases y with ⟨k,_⟩|⟨_,k,_⟩|⟨_,_,rfl,o,A',rfl,_,j,z,A⟩
 ·rw[ZqR]at k;cases k
 ·rw[g]at k;exact absurd rfl k
 ·rw[g]at j;exact⟨H',A',o,w,j,z,A⟩
theorem Zv4 {n:Nat}(j:n<=4):BOk [MP n] :=
 ⟨by simp,fun f g=>by rw[zA.1 g];kernel_rfl,fun f g=>by rw[zA.1 g];exact j,by simp,by show 4+0<=1000;omega,fun f g i=>by
  rw[zA.1 g];intro e;have:=congrArg (fun l=>l.headD 0) e;exact absurd this (by show ¬ ((100:UInt8)=(Y0 i).headD 0);have:(Y0 i).headD 0=46:=rfl;rw[this];decide)⟩
theorem ZoT {x:AV}{p:Spec}{xp:AV}{mem w:Int}{l:List Zj}(V:Sl 5 xp (p.keys.map Ke.av))(T:∀ k∈p.keys,KeOk k)(ai:p.keys.length<=1048576)(hx:SS x l)(hL:We l)(hl:l.length<=1048576) :
 ∃ H',RQ [.agg (XR p xp mem w),x] []=some (.bool true,H'):=by
 have I:SpecAV (.agg (p.cells xp)) p:=⟨xp,rfl,V⟩;have M:=ZwE (p:=p) (xp:=xp) (mem:=mem) (w:=w) [];have Y:([]++[zB (XR p xp mem w)]:Hp)[0]?=some (.cells (XR p xp mem w)):=rfl;have X:Z4 true 7 (.ptr 0 0) ([]++[zB (XR p xp mem w)])=some (.agg (XR p xp mem w)):=ZyV (p:=p) (xp:=xp) (mem:=mem) (w:=w) [];have C:=Zfu Y;have az:=Zm8 Y;obtain⟨b,Q,f2⟩:=ZpZ hx hl hL ([]++[zB (XR p xp mem w)]);have Z:=Zmx (p:=p) (mem:=mem) (w:=w) V ([]++[zB (XR p xp mem w)]);have f4:=ZtN hx hL hl I mem w ([]++[zB (XR p xp mem w)]);have el:([]:Hp).length=0:=rfl;rw[el]at M;have aj:([]++[zB (XR p xp mem w)]:Hp).length=1:=rfl;generalize ([]++[zB (XR p xp mem w)]:Hp)=H1 at M X C az Q Z f4 Y aj;rw[Hh];unfold RR
 cases b with
 |false=>exact⟨H1,by simp only[M,go_sem,Q,zD,MK]⟩
 |true =>
 obtain⟨U,F⟩:=f2 rfl
 cases hk:decide ((p.keys.length:Int)<=10) with
 |false=>exact⟨H1,by simp only[M,go_sem,Q,zC,X,Z,hk,zD,MK]⟩
 |true =>
 cases D:IP p mem w l != 0 with
 |true=>exact⟨H1,by simp only[M,go_sem,Q,zC,X,Z,hk,zD,AM,Zlv,C,az,f4,D,MK]⟩
 |false =>
 have u:IP p mem w l=0:=by simpa using D
 obtain⟨_,ay,ba,bb,bc⟩:=Zoa u;obtain⟨K,rfl⟩:∃ K:Nat,w=(K:Int):=⟨w.toNat,by omega⟩;simp only[M,go_sem,Q,zC,X,Z,hk,zD,AM,Zlv,C,az,f4,D,Si]
 -- the store with its file
 obtain⟨H2,s1,s2,s3⟩:=ZxV 262144 (by omega) H1;have an:(min (max (262144:Int) 0) 262144).toNat=262144:=rfl;rw[an]at s2;have e2:H2[0]?=some (.cells (XR p xp mem (K:Int))):=by rw[s3,zJ (by omega)];exact Y
 have l2:H1.length+2<=H2.length:=by rw[s3];simp
 have k0:StoOk ⟨262144,0,[],false,0⟩:=(XS.start (B:=[]) (pk:=0) (by omega)).stoOk Zyf;obtain⟨H3,A3,c1,O⟩:=ZfS s2 k0 Pz (by show 4<=_;omega);have ec:(⟨262144,0,[],false,0⟩:Sto).create Pz=(0,⟨262144,0,[⟨Pz,[],0⟩],false,0⟩):=by kernel_rfl
 rw[ec]at c1 O;have k1:StoOk ⟨262144,0,[⟨Pz,[],0⟩],false,0⟩:=⟨by show 262144<=262144;omega,by show 0<=262144;omega,by show 0<=262144;omega,fun f E=>by rw[zA.1 E];kernel_rfl,by simp,fun f E=>by rw[zA.1 E];exact zK _,by simp,by simp⟩;obtain⟨g,A4,d1,N⟩:=ZfR O.at' k1 Pz Zdu (by show 4<=_;omega);have ed:(⟨262144,0,[⟨Pz,[],0⟩],false,0⟩:Sto).append Pz Zdu=(0,⟨262144,4,[MP 0],false,0⟩):=by kernel_rfl
 rw[ed]at d1 N;have ap:((0:Int) != 0)=false:=rfl;have ac:((0:Int)==0)=true:=rfl;have o2:∀ a∈[H1.length+1,H1.length],a≠0:=fun a j=>by simp at j;omega
 have o3:∀ a∈A3,a≠0:=fun a j=>by
  rcases O.own a j with h|h
  ·exact o2 a h
  ·omega
 have e3:=O.stp.get e2 (fun h=>o2 0 h rfl);have e4:=N.stp.get e3 (fun h=>o3 0 h rfl);have l3:=O.stp.len;have l4:=N.stp.len
 have o4:∀ a∈A4,a≠0:=fun a j=>by
  rcases N.own a j with h|h
  ·exact o3 a h
  ·omega
 have e5:(g++[zR])[0]?=some (.cells (XR p xp mem (K:Int))):=by rw[zJ (by omega)];exact e4
 obtain⟨ad,g1,g2⟩:=NT (g++[zR]);have aq:=Zfu e5;have au:=Zm8 e5;have h5:StoreAt (g++[zR]) (H1.length+1) ⟨262144,4,[MP 0],false,0⟩ A4:=N.at'.stp (Stp.push (A:=[]) _ _) fun a _ h=>by cases h
 have R:=N.at'.lt;obtain⟨W,y,J,S6,r1,r2,r3,r4,r5,r6,r7⟩:=ZuH g2 ZxG ZAC I T ai hx U F (Zv4 (n:=0) (by omega)) u h5 (by omega) (ZyU (ZwT (by omega) (by omega) (by omega)) Zte);have ah:(g++[zR])[g.length]?=some .free:=by simp
 have S:=r5.get ah (fun h=>by have:=R _ h;omega);have e6:=r5.get e5 (fun h=>o4 0 h rfl);have ag:=ZrN (l:=[zS .i64 0,.int .i64 0,.int .i64 0,.int .i64 0]) S;have am:=Zt (zB [zS .i64 0,.int .i64 0,.int .i64 0,.int .i64 0]) S;have z:=VP (off:=0) (sz:=4) (v:=Zrd (ZpJ defL p mem K l)) am rfl rfl (by simp)
 have af:∀ a∈S6,a∉[g.length]:=fun a j h=>by
  rw[zA.1 h]at j;rcases r6 _ j with k|k
  ·have:=R _ k;omega
  ·simp at k;omega
 have t7:Stp [g.length] W ((W.set g.length (.cells [zS .i64 0,.int .i64 0,.int .i64 0,.int .i64 0])).set g.length (.cells (splice [zS .i64 0,.int .i64 0,.int .i64 0,.int .i64 0] 0 (Zrd (ZpJ defL p mem K l)).cells))) :=
  (Stp.set (A:=[g.length]) W _ (by simp)).trans (Stp.set (A:=[g.length]) _ _ (by simp)) (fun _ h=>h) fun _ h=>.inl h
 have h7:=r3.stp t7 af;have e7:=t7.get e6 (fun h=>by have:=zA.1 h;omega);generalize ((W.set g.length (.cells [zS .i64 0,.int .i64 0,.int .i64 0,.int .i64 0])).set g.length (.cells (splice [zS .i64 0,.int .i64 0,.int .i64 0,.int .i64 0] 0 (Zrd (ZpJ defL p mem K l)).cells)))=H7 at z t7 h7 e7;have k7:StoOk ⟨262144,J,[MP 0],false,0⟩:=⟨by show 262144<=262144;omega,by show 4<=262144;omega,r4,fun f E=>by rw[zA.1 E];kernel_rfl,by simp,fun f E=>by rw[zA.1 E];show 0<=_;omega,by simp,by simp⟩;obtain⟨L,m1,m2⟩:=ZkE h7 k7 Pz 0 10 (by omega);have er:(⟨262144,J,[MP 0],false,0⟩:Sto).read Pz 0 10=(Zdu,0):=rfl;rw[er]at m1;have h8:StoreAt L (H1.length+1) ⟨262144,J,[MP 0],false,0⟩ S6:=m2.at';obtain⟨xl,n1,n2⟩:=Zie h8 k7
 have ak:Zk (.slice 108) xl=some (.int .i64 1):=by
  have:=Sl.len n2 108;rw[zM]at this;exact this
 have e8:=m2.stp.get e7 (fun h=>by
  rcases r6 _ h with k|k
  ·exact o4 0 k rfl
  ·simp at k)
 obtain⟨aw,q1,q2⟩:=NT L;have ar:=Zfu e8;obtain⟨y8,w1,w2⟩:=ZjM q2 ZxG I T hx hL hl L;have al:(ZS defL p l).length<=1048576:=zH (Zd6 defL p l) hl;have H:=ZnT r2 w2 al L;have ax:(Zdu==Zdu)=true:=rfl;have ae:((1:Int)==1)=true:=rfl;refine⟨L,?_⟩;have aa:Wc [.ptr (H1.length+1) 0,.str [100,97,116,97]] H2=some (.int .i64 0,H3):=c1;have ab:Wb [.ptr (H1.length+1) 0,.str [100,97,116,97],.str [107,101,112,116]] H3=some (.int .i64 0,g):=d1;have ao:V5 [.ptr (H1.length+1) 0,.str [100,97,116,97],.int .i64 0,.int .i64 10] H7=some (.tuple [.str [107,101,112,116],.int .i64 0],L):=m1;have ek:(([107,101,112,116]:List UInt8)==[107,101,112,116])=true:=rfl;simp only[s1,go_sem,aa,ap,ab,Sj,g1,AM,Zlv,aq,au,r1,List.getElem?_cons_zero,List.getElem?_cons_succ,Nat.add_zero,ag,z,ao,n1,ac,q1,ar,w1,H,ek,ak,ae,MK]
end Go.Am
