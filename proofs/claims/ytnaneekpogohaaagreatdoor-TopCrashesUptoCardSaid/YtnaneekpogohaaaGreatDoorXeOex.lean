/- The files that are left of an owner -/
import Derived.Test.YtnaneekpogohaaaGreatDoorXeSmx
import Derived.Test.YtnaneekpogohaaaGreatDoorXeQcx
import Derived.Test.YtnaneekpogohaaaGreatDoorXeCox
open Go.Am.AV renaming int->J
open Go.IntKind renaming i64->xO
open Go.IntKind renaming i64->xN
open List renaming getElem?_cons_zero->zA,getElem?_cons_succ->zB,mem_append->zE,mem_append_left->zF,mem_cons->zG,mem_append_right->zH,mem_map_of_mem->zJ,mem_singleton->zL,set->zM,length_map->zN,length_append->zO,append_nil->zR,length_singleton->zS,map_append->zT,nodup_cons->zU,mem_of_getElem?->zV,getElem?_append_right->zW,getElem?_map->zX,getElem?_eq_getElem->zY,append_assoc->yB,nodup_append->yC,mem_cons_of_mem->yF,getElem?_of_mem->yG,length_cons->yL,map_cons->yM,take_append_drop->yN,getElem?_set_ne->yO,mem_of_mem_drop->yP,headD_cons->yQ,nil_append->yR,isEmpty_cons->yU,drop_eq_getElem_cons->yV,all_cons->yW,getElem?_eq_some_iff->yX,isEmpty_nil->yY,all_eq_true->xB,mem_map->xC,mem_of_mem_take->xD,length_drop->xG,length_take->xH,length_nil->xJ,map_map->xL
open Nat renaming zero_add->zC,le_refl->zK,le_trans->zQ,mul_le_mul_right->yE,reduceAdd->yH,add_zero->yK,zero_le->yS,lt_of_lt_of_le->xE,sub_le->xK
open Bool renaming not_false->zI,not_true->zP,true_and->zZ,false_and->yD,false_eq_true->yJ,and_eq_true->xA,eq_iff_iff->xI
open Option renaming isSome->yA,getD->yI
open Int renaming toNat_natCast->xF
open Go.Am.AObj renaming cells->zD
open Go.Am.AV renaming ptr->yT,str->yZ,int->xM
namespace Go.Am
set_option linter.unusedSectionVars false
set_option maxRecDepth 100000
def Zw7 (s:Zm):Bool:=s.all Zar&&(!s.isEmpty&&!(s.headD 0==48))
theorem Zvc (b:UInt8):Zar b=(!decide ((b.toNat:Int)<48)&&!decide ((57:Int)<(b.toNat:Int))):=by
 rw[xI];simp[Zar,UInt8.le_iff_toNat_le];omega
theorem ZoH (s:Zm)(j H:Hp):KI (.str s) j H=some (.bool (!s.isEmpty&&!(s.headD 0==48)),H):=by
 rw[Hx]
 cases s with
 |nil =>
  have:(!(([]:Zm)==[]))=false:=rfl;simp only[go_sem,YR,KX,this,yY,zP,yD]
 |cons b l =>
  have:(!((b::l)==([]:Zm)))=true:=rfl;have hi:Zx (.str (b::l)) (J xO 0)=some (.int .u8 (b.toNat:Int)):=ZW (i:=0) rfl
  have y:(((b.toNat:Int)) != 48)=!(b==48):=by
   by_cases h:b=48
   ·subst h;rfl
   ·have z:b.toNat≠48:=fun e=>h (UInt8.toNat_inj.1 e);have u:(b==48)=false:=by simpa using h
    rw[u];simp;omega
  simp only[go_sem,YR,KX,this,hi,y,yU,zI,zZ,yQ]
theorem Zlh (s:Zm)(hs:s.length<=1048576)(z H:Hp):∀ (k i:Nat),s.length-i=k->i<=s.length ->
 Ut (.str s) (J xO (s.length:Int)) (J xO (i:Int)) z H=some (.bool ((s.drop i).all Zar&&(!s.isEmpty&&!(s.headD 0==48))),H):=by
 intro k
 induction k with
 |zero =>
  intro i hk hi;rw[Dn];have u:decide ((i:Int)<(s.length:Int))=false:=by simp;omega
  have hd:s.drop i=[]:=List.drop_eq_nil_iff.2 (by omega);simp only[go_sem,u,ZoH,hd,List.all_nil,zZ]
 |succ k C =>
  intro i hk hi;rw[Dn];have hl:i<s.length:=by omega
  have u:decide ((i:Int)<(s.length:Int))=true:=by simp;omega
  have hw:xN.wrap ((i:Int)+1)=((i+1:Nat):Int):=by rw[Zp (by omega) (by omega)];omega
  have j:Zx (.str s) (J xO (i:Int))=some (.int .u8 (s[i].toNat:Int)):=ZW (zY hl);rw[yV hl,yW,Zvc s[i]];simp only[go_sem,u,Hy,j]
  cases D:decide ((s[i].toNat:Int)<48) with
  |true=>simp only[go_sem,zP,yD]
  |false =>
   cases y:decide ((57:Int)<(s[i].toNat:Int)) with
   |true=>simp only[go_sem,j,y,zP,zI,yD,Bool.and_false]
   |false =>
    simp only[go_sem,j,y,zI,Bool.and_true,zZ,HA,hw];exact C (i+1) (by omega) (by omega)
theorem Zlg (s:Zm)(hs:s.length<=1048576)(H:Hp):Zh Gg [.str s] H=some (.bool (Zw7 s),H):=by
 refine XP (a':=.str s) rfl (H1:=[]) ?_ rfl;rw[I0];unfold Pe;simp only[go_sem];exact Zlh s hs [] [] s.length 0 rfl (by omega)
def JI (j n:Zm):Bool:=decide ((Wf j).length<n.length)&&((n.take (Wf j).length==Wf j)&&Zw7 (n.drop (Wf j).length))
def QC (j:Zm)(fs:List Fil):List Zm:=(fs.map Fil.name).filter (JI j)
def Wo (j:Zm)(s:Sto):List Zm:=if QR j then QC j (Uj s.files) else []
theorem Zta (j:Zm)(a b:List Fil):QC j (a++b)=QC j a++QC j b:=by
 unfold QC;rw[zT,List.filter_append]
theorem Zks (j:Zm)(a:List Fil):(QC j a).length<=a.length:=by
 unfold QC;exact zQ (List.length_filter_le _ _) (by simp)
theorem Ztb {D:Hp}{j:Zm}(ho:j.length<=1048576){x:AV}{fs:List Fil}(hx:Sl 3 x (fs.map Yk))(hl:fs.length<=64)(hn:∀ f∈fs,f.name.length<=1048576)(HB:Hp):∀ (r d:List Fil) (O:AV) (H:Hp),fs=d++r ->
 RowN D.length H 1 O ((QC j d).map yZ)->Keep D.length D H->D.length<=H.length ->
 ∃ y H',KE O (.str (Wf j)) x (J xO (fs.length:Int)) (J xO (d.length:Int)) HB H=some (y,H')/\RowN D.length H' 1 y ((QC j fs).map yZ)/\Keep D.length D H'/\D.length<=H'.length:=by
 have am:(Wf j).length=j.length+6:=by simp[Wf]
 intro r
 induction r with
 |nil =>
  intro d O H hd h5 hK hlen;rw[zR]at hd;subst hd;have R:decide ((fs.length:Int)<(fs.length:Int))=false:=by simp
  rw[PJ];simp only[go_sem,R,ZcI];exact⟨_,_,rfl,h5,hK,hlen⟩
 |cons f r ih =>
  intro d O H hd h5 hK hlen;have ad:fs.length=d.length+(r.length+1):=by rw[hd];simp
  have R:decide ((d.length:Int)<(fs.length:Int))=true:=by simp;omega
  have M:xN.wrap ((d.length:Int)+1)=((d.length+1:Nat):Int):=by rw[Zp (by omega) (by omega)];omega
  have Y:fs[d.length]?=some f:=by rw[hd,zW (zK _)];simp
  have al:=hn f (zV Y);have X:Zo 3 x (J xO (d.length:Int))=some (.vp (Yk f).cells):=Sl.idx hx (c:=Yk f) (by simp[Y]);have C:(H++[zD [.str [],J xO 0,J xO 0]])[H.length]?=some (.cells [.str [],J xO 0,J xO 0]):=by simp
  have ag:Za 3 (.ptr H.length 0) (Yk f) (H++[zD [.str [],J xO 0,J xO 0]])=some (.tuple [],H++[zD (Yk f).cells]):=by
   rw[WT (v:=Yk f) (sz:=3) C rfl rfl (by simp)];simp[splice,Yk,AV.cells]
  have g1:(H++[zD (Yk f).cells])[H.length]?=some (.cells (Yk f).cells):=by simp
  have m0:=ZN g1 0 (v:=.str f.name) rfl;have I:Keep D.length D (H++[zD (Yk f).cells]):=hK.trans (Keep.push H hlen _)
  have F:RowN D.length (H++[zD (Yk f).cells]) 1 O ((QC j d).map yZ):=by
   rcases h5 with k|⟨t,e,k1,k2,k3⟩
   ·exact .inl k
   ·exact .inr ⟨t,e,k1,ZY k2 _,k3⟩
  have ak:(QC j d).length<=d.length:=Zks _ _;have Z:(ZB 1 [(0,.str f.name)] [(.str [])]).map (AV.vs 1 .clip)=some (.vs 1 .clip [.str f.name]):=Rz _;obtain⟨x',H1,q1,q2,q3,q4,_⟩:=F.app (by simp;omega) 16 (.vs 1 .clip [.str f.name]) [.str f.name] rfl (by simp;omega)
  have u:QC j (d++[f])=QC j d++(if JI j f.name then [f.name] else []):=by
   rw[Zta];congr 1;unfold QC;cases K:JI j f.name <;> simp[K]
  rw[PJ]
  have ac:Z5 .gtr (J xO (f.name.length:Int)) (J xO ((Wf j).length:Int))=some (.bool (decide ((Wf j).length<f.name.length))):=by
   simp only[go_sem];congr 2;rw[xI];simp
  have aa:Zk .string (.str (Wf j))=some (J xO ((Wf j).length:Int)):=rfl;have ab:Zk .string (.str f.name)=some (J xO (f.name.length:Int)):=rfl;simp only[go_sem,R,ZcJ,X,ZmP,ag,aa,ab,zC,m0,ac]
  cases C:decide ((Wf j).length<f.name.length) with
  |false =>
   have K:JI j f.name=false:=by unfold JI;rw[C];rfl
   rw[K,if_neg (by simp),zR]at u;obtain⟨V,z,E,S,T,U⟩:=ih (d++[f]) O (H++[zD (Yk f).cells]) (by rw[hd];simp) (by rw[u];exact F) I (by simp;omega);rw[zO,zS]at E;refine⟨V,z,?_,S,T,U⟩;simp only[go_sem,Q5,M];exact E
  |true =>
   have aj:(Wf j).length<f.name.length:=of_decide_eq_true C
   have ah:Y8 (.str f.name) none (some (J xO ((Wf j).length:Int))) none=some (.str (f.name.take (Wf j).length)):=by
    rw[ZhO .i64 (by omega) (by omega),xF]
   have ai:Y8 (.str f.name) (some (J xO ((Wf j).length:Int))) none none=some (.str (f.name.drop (Wf j).length)):=by
    rw[Ea .i64 (by omega) (by omega),xF]
   have af:YR .eql (.str (f.name.take (Wf j).length)) (.str (Wf j))=some (.bool (f.name.take (Wf j).length==Wf j)):=rfl;have ae:=Zlg (f.name.drop (Wf j).length) (by rw[xG];omega);simp only[go_sem,zC,m0,ah,af]
   cases Q:(f.name.take (Wf j).length==Wf j) with
   |false =>
    have K:JI j f.name=false:=by unfold JI;rw[C,Q];rfl
    rw[K,if_neg (by simp),zR]at u;obtain⟨V,z,E,S,T,U⟩:=ih (d++[f]) O (H++[zD (Yk f).cells]) (by rw[hd];simp) (by rw[u];exact F) I (by simp;omega);rw[zO,zS]at E;refine⟨V,z,?_,S,T,U⟩;simp only[go_sem,Q5,M];exact E
   |true =>
    simp only[go_sem,zC,m0,ai,ae]
    cases W:Zw7 (f.name.drop (Wf j).length) with
    |false =>
     have K:JI j f.name=false:=by unfold JI;rw[C,Q,W];rfl
     rw[K,if_neg (by simp),zR]at u;obtain⟨V,z,E,S,T,U⟩:=ih (d++[f]) O (H++[zD (Yk f).cells]) (by rw[hd];simp) (by rw[u];exact F) I (by simp;omega);rw[zO,zS]at E;refine⟨V,z,?_,S,T,U⟩;simp only[go_sem,Q5,M];exact E
    |true =>
     have K:JI j f.name=true:=by unfold JI;rw[C,Q,W];rfl
     rw[K,if_pos rfl]at u;obtain⟨V,z,E,S,T,U⟩:=ih (d++[f]) x' H1 (by rw[hd];simp) (by rw[u,zT];exact q2) (I.trans q4) q3;rw[zO,zS]at E;refine⟨V,z,?_,S,T,U⟩;simp only[go_sem,zC,m0,Z,q1,Q5,M];exact E
theorem C1 {l:List Fil}{n:Zm}{f:Fil}(h:ZP l n=some f):f∈l:=by
 obtain⟨a,b,e,_⟩:=TD h;rw[e];simp
theorem Ztd {l:List Fil}{f:Fil}(h:f∈Uj l):f∈l:=by
 unfold Uj at h;obtain⟨n,_,j⟩:=List.mem_filterMap.1 h;exact C1 j
theorem Zku (l:List Fil):(Uj l).length<=l.length:=by
 unfold Uj;refine zQ (List.length_filterMap_le _ _) ?_;rw[(QN _).length_eq,zN];exact zK _
theorem Zp0 {H:Hp}{t:Nat}{s:Sto}{S:List Nat}(h:StoreAt H t s S)(hk:StoOk s)(j:Zm)(I:j.length<=1048576):∃ x,JQ VK [.ptr t 0,.str j] H=some (x,H)/\SS x (Wo j s):=by
 have E:=ZkF j I H;have C:∀ u,Yr (.pointer u) .eql (.ptr t 0) .nilp=some (.bool false):=fun _=>rfl
 cases z:QR j with
 |false =>
  rw[z]at E;refine⟨.nils,Cc (H1:=H) (v:=.nils) ?_ (Keep.refl _ _) (zK _) rfl,.inl ⟨rfl,by unfold Wo;rw[z];rfl⟩⟩;rw[NX];unfold T4;simp only[go_sem,C,E,zI]
 |true =>
  rw[z]at E;obtain⟨x,Y,O⟩:=Zjj h hk
  have hx:∀ u,Zk (.slice u) x=some (J xO ((Uj s.files).length:Int)):=fun u=>by
   have:=Sl.len O u
   rwa [zN]at this
  have T:=Zku s.files;have hkl:=hk.len;obtain⟨y,H1,W,X,K,M⟩:=Ztb I O (by omega) (fun f R=>zQ (ZmW (hk.name f (Ztd R))) (by omega)) H (Uj s.files) [] .nils H rfl (.inl ⟨rfl,rfl⟩) (Keep.refl _ _) (zK _)
  have D:VK [.ptr t 0,.str j] H=some (y,H1):=by
   rw[NX];unfold T4;simp only[go_sem,C,E,zP,ZcH,ZiI j I,Y,hx];exact W
  have F:Wo j s=QC j (Uj s.files):=by unfold Wo;rw[z];rfl
  rw[F];rcases X with ⟨rfl,U⟩|⟨Q,e,rfl,Z,V⟩
  ·exact⟨.nils,Cc D K M rfl,.inl ⟨rfl,U⟩⟩
  ·refine⟨.vs 1 (if Q<H.length then .own Q e else .no) ((QC j (Uj s.files)).map yZ),Cc D K M (by rw[Ed,Ou (fun x hx=>by obtain⟨n,_,rfl⟩:=xC.1 hx;rfl)]),.inr ⟨_,rfl⟩⟩
theorem Zbw {H:Hp}{o:Nat}{s:Sto}{A:List Nat}(h:StoreAt H o s A)(hc:s.crashed=false)(n:Nat)(E:n<=9223372036854775807) :
 ∃ H',WV [.ptr o 0,J xO (n:Int)] H=some (.tuple [],H')/\StoRes H H' o { s with count:=n } A A:=by
 obtain⟨m,C,ds,h,rfl⟩:=h;have j:Yr (.pointer 82) .neq (.ptr o 0) .nilp=some (.bool true):=rfl;have hcl:H[o]?=some (.cells (YD m s)):=h.cells;have z:=ZN hcl 4 (v:=.bool s.crashed) rfl;rw[hc]at z
 have u:Qr (J xO (n:Int)) (J xO 0)=some (J xO (n:Int)):=by
  simp[Qr];omega
 have D:=V9 hcl 5 (v:=J xO (n:Int)) rfl rfl (by simp[YD]);have g:=Zq (zD (zM (YD m s) 5 (J xO (n:Int)))) hcl;have y:Stp [o] H (H.set o (.cells (zM (YD m s) 5 (J xO (n:Int))))):=Stp.set _ _ (by simp);refine⟨_,?_,(h.cell (s':={ s with count:=n }) y g rfl).res y⟩;rw[MB];unfold BK;simp only[j,go_sem,zC,z,zI,u,D]
theorem TxAt.cut {H:Hp}{x:AV}{l:Zm}(h:TxAt H x l){n:Nat}(y:n<=l.length) :
 ∃ j,Yg 1 x none (some (J xO (n:Int))) (some (J xO (n:Int)))=some j/\ZI j=[]/\(∀ H',TxAt H' j (l.take n))/\j.cells=[j]/\j.known=true:=by
 have u:Ys l.length l.length none (some (J xO (n:Int))) (some (J xO (n:Int)))=some (0,n,n):=by
  rw[Zpx (len:=l.length) (cap:=l.length) .i64 .i64 (by omega) (by omega) (by omega)];simp
 have key:∀ t,Yg 1 (.vs 1 t (l.map bv)) none (some (J xO (n:Int))) (some (J xO (n:Int)))=some (.vs 1 .clip ((l.take n).map bv)):=fun t=>by
  unfold Yg;dsimp only;rw[if_pos rfl,zN,u];simp
 rcases h with ⟨rfl,rfl⟩|⟨t,e,rfl,z⟩|rfl
 ·have:n=0:=by simpa using y
  subst this;exact⟨.nils,by unfold Yg;dsimp only;rw[show Ys 0 0 none (some (J xO ((0:Nat):Int))) (some (J xO ((0:Nat):Int)))=some (0,0,0) from by simpa using u],rfl,fun _=>.inl ⟨rfl,rfl⟩,rfl,rfl⟩
 ·exact⟨_,key _,rfl,fun _=>.inr (.inr rfl),rfl,rfl⟩
 ·exact⟨_,key _,rfl,fun _=>.inr (.inr rfl),rfl,rfl⟩
theorem ZzM (i:Nat):Z5 .rem (J xO (i:Int)) (J xO 8)=some (J xO ((i % 8:Nat):Int)):=by
 unfold Z5 XB;simp only[if_true,XF];rw[if_neg (by omega)];congr 2
theorem StoRes.trans {H H1 j:Hp}{o:Nat}{s1 u:Sto}{A A1 A2:List Nat}(h:StoRes H H1 o s1 A A1)(k:StoRes H1 j o u A1 A2):StoRes H j o u A A2 :=
 ⟨k.at',h.stp.trans k.stp (fun _ h=>h) (fun a ha=>h.own a ha),fun a ha=>(k.own a ha).elim (h.own a) fun y=>.inr (zQ h.stp.len y)⟩
structure ROk (s:Sto):Prop where
  sto:StoOk s
  cnt:s.crashed=true->s.count=0
theorem Zny {s:Sto}(h:StoOk s):StoOk s.tick:=by
  have:=h.count;unfold Sto.tick;split
  · exact h
  · split
    · exact⟨h.limit,h.used,h.peak,h.name,h.nd,h.syn,h.len,by simp⟩
    · exact⟨h.limit,h.used,h.peak,h.name,h.nd,h.syn,h.len,by show s.count-1<=9223372036854775807;omega⟩
theorem ROk.tick {s:Sto}(h:ROk s):ROk s.tick:=⟨Zny h.sto,by
  unfold Sto.tick;split
  · exact h.cnt
  · split
    · exact fun _=>rfl
    · rename_i j _
      exact fun u=>absurd u j⟩
theorem ZiL {s:Sto}(h:ROk s)(n:Zm):ROk (s.remove n).2:=by
  have j:=h.tick;unfold Sto.remove;split
  · exact j
  · split
    · exact j
    · have:=Zx4 j.sto n
      rw[Xx]at this;exact⟨this,j.cnt⟩
def Y6:List Zm->Sto->Int×Sto
  |[],s=>(0,s)
  |n::r,s=>if (s.remove n).1≠0 then s.remove n else Y6 r (s.remove n).2
theorem Zkt (j:Zm){s:Sto}(h:StoOk s):(Wo j s).length<=64:=by
  unfold Wo;split
  · exact zQ (Zks _ _) (zQ (Zku _) h.len)
  · simp
theorem Zrt {t:Nat}{x:AV}{ns:List Zm}(hx:SS x ns)(hl:ns.length<=64)(ow lim:AV)(HB:Hp):∀ (r d:List Zm) (H:Hp) (S:List Nat) (s:Sto),ns=d++r->StoreAt H t s S->ROk s ->
    ∃ H' S',KH (.ptr t 0) ow lim x (J xO (ns.length:Int)) (J xO (d.length:Int)) HB H=(if (Y6 r s).1≠0 then some (.tuple [.nilp,J xO (Y6 r s).1],H') else KF (.ptr t 0) ow lim HB H')/\StoRes H H' t (Y6 r s).2 S S':=by
  intro r
  induction r with
  |nil =>
    intro d H S s hd h hk;rw[zR]at hd;subst hd;have hlt:decide ((ns.length:Int)<(ns.length:Int))=false:=by simp
    refine⟨H,S,?_,⟨h,Stp.refl _ _,fun a ha=>.inl ha⟩⟩;rw[PM,Y6,if_neg (by simp)];simp only[go_sem,hlt]
  |cons n r ih =>
    intro d H S s hd h hk;have hlen:ns.length=d.length+(r.length+1):=by rw[hd];simp
    have hlt:decide ((d.length:Int)<(ns.length:Int))=true:=by simp;omega
    have hw1:xN.wrap ((d.length:Int)+1)=((d.length+1:Nat):Int):=by rw[Zp (by omega) (by omega)];omega
    have hin:ns[d.length]?=some n:=by rw[hd,zW (zK _)];simp
    have hidx:=SS.idx hx hin;obtain⟨H1,S1,q1,q2⟩:=E6 h hk.sto n;rw[PM];by_cases he:(s.remove n).1=0
    · have e0:((s.remove n).1 != 0)=false:=by rw[he];rfl
      have hor:Y6 (n::r) s=Y6 r (s.remove n).2:=by rw[Y6,if_neg (by simp[he])]
      obtain⟨H2,S2,r1,r2⟩:=ih (d++[n]) H1 S1 _ (by rw[hd];simp) q2.at' (ZiL hk n);rw[zO,zS]at r1;rw[hor];refine⟨H2,S2,?_,q2.trans r2⟩;simp only[go_sem,hlt,PL,hidx,Zz,q1,e0,ZcL,hw1];exact r1
    · have e0:((s.remove n).1 != 0)=true:=by simpa using he
      have hor:Y6 (n::r) s=s.remove n:=by rw[Y6,if_pos he]
      rw[hor];refine⟨H1,S1,?_,q2⟩;rw[if_pos he];simp only[go_sem,hlt,PL,hidx,Zz,q1,e0]
theorem ZwH {H:Hp}{t:Nat}{s:Sto}{S:List Nat}(h:StoreAt H t s S)(ow:Zm)(lim:Int)(HB:Hp) :
    ∃ H',KF (.ptr t 0) (.str ow) (J xO lim) HB H=some (.tuple [.ptr (H.length+1) 0,J xO 0],H')/\SysAt H' (H.length+1) t ⟨ow,[],[],(max 0 lim).toNat,0,false⟩ s ([H.length+1,H.length]++S)/\Stp [] H H':=by
  have hf1:(YS [(0,1,.ptr t 0),(1,1,.str ow),(3,1,.map H.length)] [.nilp,(.str []),.nils,.nilm]).map AV.agg=some (.agg [.ptr t 0,.str ow,.nils,.map H.length]):=rfl;have hf2:(YS [(0,4,.agg [.ptr t 0,.str ow,.nils,.map H.length]),(4,1,J xO (max 0 lim))] [.nilp,(.str []),.nils,.nilm,(J xO 0),(J xO 0),(.bool false)]).map AV.agg=some (.agg [.ptr t 0,.str ow,.nils,.map H.length,J xO (max 0 lim),J xO 0,.bool false]):=rfl;have hb:∀ l:List AV,ZQ (.agg l) (H++[.map [] 0])=some (.ptr (H.length+1) 0,H++[.map [] 0]++[.cells l]):=fun l=>by rw[Rt rfl];simp[AV.cells]
  have hl:((max 0 lim).toNat:Int)=max 0 lim:=by omega
  refine⟨H++[.map [] 0]++[.cells [.ptr t 0,.str ow,.nils,.map H.length,J xO (max 0 lim),J xO 0,.bool false]],?_,⟨[H.length+1,H.length],S,⟨H.length,0,.nils,[],⟨?_,.inl ⟨rfl,rfl⟩,?_,rfl,by simp[ZI]⟩,rfl⟩,h.frame fun a ha=>?_,fun a ha hs=>?_,rfl⟩,?_⟩
  · rw[ZcK]
    simp only[go_sem,hf1,hf2,hb]
  · simp[hl]
  · simp
  · rw[yB,List.getElem?_append_left (h.lt a ha)]
  · have:=h.lt a hs
    simp at ha;omega
  · rw[yB];exact Stp.push _ _
theorem ZrJ {H:Hp}{t:Nat}{s:Sto}{S:List Nat}(h:StoreAt H t s S)(hk:ROk s)(ow:Zm)(ho:ow.length<=1048576)(lim:Int) :
    ∃ p e H',Wy [.ptr t 0,.str ow,J xO lim] H=some (.tuple [p,J xO e],H') /\
      (QR ow=false/\p=.nilp/\e=4/\H'=H \/
       QR ow=true/\(Y6 (Wo ow s) s).1≠0/\p=.nilp/\e=(Y6 (Wo ow s) s).1/\(∃ S',StoRes H H' t (Y6 (Wo ow s) s).2 S S') \/
       QR ow=true/\(Y6 (Wo ow s) s).1=0/\e=0/\∃ o A',p=.ptr o 0/\H.length<=o/\SysAt H' o t ⟨ow,[],[],(max 0 lim).toNat,0,false⟩ (Y6 (Wo ow s) s).2 A'/\Stp S H H'/\∀ a∈A',a∈S\/H.length<=a):=by
  have hnil:∀ u,Yr (.pointer u) .eql (.ptr t 0) .nilp=some (.bool false):=fun _=>rfl;have hv:=ZkF ow ho H;rw[Zd3];unfold HM
  cases hvs:QR ow with
  |false =>
    rw[hvs]at hv;exact⟨.nilp,4,H,by simp only[hnil,go_sem,Gn,hv,zI],.inl ⟨rfl,rfl,rfl,rfl⟩⟩
  |true =>
    rw[hvs]at hv;obtain⟨x,l1,l2⟩:=Zp0 h hk.sto ow ho;have hx:∀ u,Zk (.slice u) x=some (J xO ((Wo ow s).length:Int)):=fun u=>l2.len u;obtain⟨H1,S1,q1,q2⟩:=Zrt l2 (Zkt ow hk.sto) (.str ow) (J xO lim) H (Wo ow s) [] H S s rfl h hk;simp only[xJ]at q1;by_cases he:(Y6 (Wo ow s) s).1=0
    · rw[if_neg (by simp[he])]at q1
      obtain⟨H2,k1,k2,k3⟩:=ZwH q2.at' ow lim H;refine⟨.ptr (H1.length+1) 0,0,H2,?_,.inr (.inr ⟨rfl,he,rfl,H1.length+1,_,rfl,?_,k2,q2.stp.trans k3 (fun _ h=>h) (fun a ha=>by cases ha),fun a ha=>?_⟩)⟩
      · simp only[hnil,go_sem,Gn,hv,zP,PK,l1,hx]
        exact q1.trans k1
      · have:=q2.stp.len;omega
      · have:=q2.stp.len
        rcases zE.1 ha with ha|ha
        · simp at ha
          exact .inr (by omega)
        · exact q2.own a ha
    · rw[if_pos he]at q1
      refine⟨.nilp,_,H1,?_,.inr (.inl ⟨rfl,he,rfl,rfl,S1,q2⟩)⟩;simp only[hnil,go_sem,Gn,hv,zP,PK,l1,hx];exact q1
structure Tk (s s':Sto):Prop where
  files:s'.files=s.files
  limit:s'.limit=s.limit
  peak:s'.peak=s.peak
  cnt:s'.count<=s.count
  die:s'.crashed=true->0<s.count
theorem Tk.refl {s:Sto}(hc:s.crashed=false):Tk s s:=⟨rfl,rfl,rfl,zK _,fun h=>by rw[hc]at h;cases h⟩
theorem Tk.trans {a b c:Sto}(h:Tk a b)(k:Tk b c):Tk a c:=⟨k.files.trans h.files,k.limit.trans h.limit,k.peak.trans h.peak,zQ k.cnt h.cnt,fun e=>xE (k.die e) h.cnt⟩
theorem Tk.tick {s:Sto}(hc:s.crashed=false):Tk s s.tick:=by
  refine⟨Xx s,P3 s,ZkQ s,?_,?_⟩
  · unfold Sto.tick;split
    · exact zK _
    · split
      · exact yS _
      · exact xK _ _
  · unfold Sto.tick
    rw[if_neg (by simp[hc])];split
    · intro _;omega
    · intro e
      rw[show ({ s with count:=s.count-1 }:Sto).crashed=s.crashed from rfl,hc]at e;cases e
theorem Tk.sto {s s':Sto}(h:Tk s s')(hk:StoOk s):StoOk s' :=
  ⟨by rw[h.limit];exact hk.limit,by rw[h.files,h.limit];exact hk.used,by rw[h.peak,h.limit];exact hk.peak,by rw[h.files];exact hk.name,by rw[h.files];exact hk.nd,by rw[h.files];exact hk.syn,by rw[h.files];exact hk.len,zQ h.cnt hk.count⟩
structure RdF (H:Hp)(o:Nat)(tm:Tmp)(s:Sto)(A:List Nat)(d:Rd):Prop where
  rdr:Rdr H d.r o d.n d.text d.rest
  out:d.r∉A
  fit:YU d.rest=true
  len:d.text.length<=262144
  fnd:YI tm d.n=0
  file:∃ f,ZP s.files d.n=some f/\f.text=d.text
theorem RdF.frame {H H':Hp}{o:Nat}{tm:Tmp}{s:Sto}{A:List Nat}{d:Rd}(h:RdF H o tm s A d)(j:H'[d.r]?=H[d.r]?):RdF H' o tm s A d:=⟨h.rdr.frame j,h.out,h.fit,h.len,h.fnd,h.file⟩
theorem RdF.tk {H:Hp}{o:Nat}{tm:Tmp}{s s':Sto}{A:List Nat}{d:Rd}(h:RdF H o tm s A d)(k:Tk s s'):RdF H o tm s' A d:=⟨h.rdr,h.out,h.fit,h.len,h.fnd,by rw[k.files];exact h.file⟩
theorem RdF.lt {H:Hp}{o:Nat}{tm:Tmp}{s:Sto}{A:List Nat}{d:Rd}(h:RdF H o tm s A d):d.r<H.length:=by
  obtain⟨c,hc⟩:=h.rdr.cells;exact Zg hc
section
variable {H:Hp}{o t:Nat}{tm:Tmp}{s:Sto}{A:List Nat}(h:SysAt H o t tm s A)(hm:TmpOk tm)(hk:StoOk s)(hc:s.crashed=false){d:Rd}(hd:RdF H o tm s A d)
include h hm hk hc hd
theorem ZjY:∃ H' s',Tk s s'/\SysAt H' o t tm s' A/\Stp (d.r::A) H H'/\RdF H' o tm s' A d /\
    (s'.crashed=true/\Vw [.ptr d.r 0] H=some (.tuple [.str [],.bool false,J xO 19],H') \/
     s'.crashed=false/\Vw [.ptr d.r 0] H=some (.tuple [.str (d.rest.headD []),.bool (!d.rest.isEmpty),J xO 0],H') /\
      (d.rest=[]/\(∃ p,H'[d.r]?=some (.cells (J2 o d.n p false true [])))\/∃ l q p,H'[d.r]?=some (.cells (J2 o d.n (p++X3 l).length true false l))/\d.rest=l::q/\d.text=p++X3 l++ZX q)):=by
  have hnil:Yr (.pointer 150) .eql (.ptr d.r 0) .nilp=some (.bool false):=rfl;obtain⟨f,hg,hft⟩:=hd.file;have hrA:=hd.out;rw[IX];unfold NQ;rcases hd.rdr with ⟨l,q,p,hr,hrest,htx⟩|⟨hrest,p,hr⟩|⟨p,hr,htx⟩
  · have l3:=ZN hr 3 (v:=.bool true) rfl
    have l5:=ZN hr 5 (v:=.str l) rfl;refine⟨H,s,Tk.refl hc,h,Stp.refl _ _,hd,.inr ⟨hc,?_,.inr ⟨l,q,p,hr,hrest,htx⟩⟩⟩;rw[hrest];simp only[go_sem,zC,hnil,W2,l3,zP,Vs,Fp,l5];rfl
  · have l3:=ZN hr 3 (v:=.bool false) rfl
    have l4:=ZN hr 4 (v:=.bool true) rfl;refine⟨H,s,Tk.refl hc,h,Stp.refl _ _,hd,.inr ⟨hc,?_,.inl ⟨hrest,p,hr⟩⟩⟩;rw[hrest];simp only[go_sem,zC,hnil,W2,l3,l4,zP,zI,Vs];rfl
  · have l3:=ZN hr 3 (v:=.bool false) rfl
    have l4:=ZN hr 4 (v:=.bool false) rfl;have l0:=ZN hr 0 (v:=.ptr o 0) rfl;have l1:=ZN hr 1 (v:=.str d.n) rfl;have l2:=ZN hr 2 (v:=J xO (p.length:Int)) rfl;have hT:=Tk.tick hc;have hpl:p.length<=d.text.length:=by rw[htx];simp
    have hdl:=hd.len
    cases htc:s.tick.crashed with
    |true =>
      obtain⟨H1,q1,q2,q3⟩:=ZnJ h hm hk d.n hd.fnd htc (p.length:Int) (by omega);have e0:((19:Int)==0)=false:=rfl;have e5:((19:Int)==5)=false:=rfl;have g1:=q3.get hr hrA;refine⟨H1,s.tick,hT,q2,q3.mono fun a ha=>by simp[ha],(hd.tk hT).frame (g1.trans hr.symm),.inl ⟨htc,?_⟩⟩;simp only[go_sem,zC,hnil,W2,l3,l4,l0,l1,l2,zI,q1,zA,zB,e0,e5]
    |false =>
      have hfit:=hd.fit
      cases hrest:d.rest with
      |nil =>
        rw[hrest]at htx hfit;obtain⟨H1,q1,q2,q3⟩:=Zk1 h hm hk d.n hd.fnd htc hg (hft.trans htx) hfit (by rw[hft];exact hd.len);have g1:=q3.get hr hrA;have e5:((5:Int)==0)=false:=rfl;have e55:((5:Int)==5)=true:=rfl;have s4:=V9 g1 4 (v:=.bool true) rfl rfl (by simp);have g2:=Zq (zD (zM (J2 o d.n p.length false false []) 4 (.bool true))) g1;have k3:=ZN g2 3 (v:=.bool false) rfl;have hS2:Stp (d.r::A) H1 (H1.set d.r (.cells (zM (J2 o d.n p.length false false []) 4 (.bool true)))):=Stp.set _ _ (by simp)
        refine⟨H1.set d.r (.cells (zM (J2 o d.n p.length false false []) 4 (.bool true))),s.tick,hT,q2.stp (C:=[d.r]) (Stp.set _ _ (by simp)) (fun a ha=>by simp;exact fun e=>hrA (e ▸ ha)),(q3.mono (B:=d.r::A) fun a ha=>by simp[ha]).trans hS2 (fun _ h=>h) (fun _ h=>.inl h),
          ⟨.inr (.inl ⟨hrest,p.length,g2⟩),hrA,hd.fit,hd.len,hd.fnd,by rw[hT.files];exact hd.file⟩,.inr ⟨htc,?_,.inl ⟨rfl,p.length,g2⟩⟩⟩
        simp only[go_sem,zC,hnil,W2,l3,l4,l0,l1,l2,q1,zA,zB,e5,e55,s4,Vs,k3,zI];rfl
      |cons l q =>
        rw[hrest]at htx hfit;obtain⟨H1,q1,q2,q3⟩:=Zk1 h hm hk d.n hd.fnd htc hg (hft.trans htx) hfit (by rw[hft];exact hd.len);have g1:=q3.get hr hrA;have ez:((0:Int)==0)=true:=rfl;have s5:=V9 g1 5 (v:=.str l) rfl rfl (by simp);have g2:=Zq (zD (zM (J2 o d.n p.length false false []) 5 (.str l))) g1;have s2:=V9 g2 2 (v:=J xO ((p++X3 l).length:Int)) rfl rfl (by simp);have g3:=Zq (zD (zM (zM (J2 o d.n p.length false false []) 5 (.str l)) 2 (J xO ((p++X3 l).length:Int)))) g2;have s3:=V9 g3 3 (v:=.bool true) rfl rfl (by simp);have g4:=Zq (zD (zM (zM (zM (J2 o d.n p.length false false []) 5 (.str l)) 2 (J xO ((p++X3 l).length:Int))) 3 (.bool true))) g3;generalize hH2:H1.set d.r (.cells (zM (J2 o d.n p.length false false []) 5 (.str l)))=H2 at s5 s2 g3 s3 g4;generalize hH3:H2.set d.r (.cells (zM (zM (J2 o d.n p.length false false []) 5 (.str l)) 2 (J xO ((p++X3 l).length:Int))))=H3 at s2 s3 g4;generalize hH4:H3.set d.r (.cells (zM (zM (zM (J2 o d.n p.length false false []) 5 (.str l)) 2 (J xO ((p++X3 l).length:Int))) 3 (.bool true)))=H4 at s3 g4;have k3:=ZN g4 3 (v:=.bool true) rfl;have k5:=ZN g4 5 (v:=.str l) rfl
        have hS2:Stp [d.r] H1 H4:=by
          rw[<-hH4,<-hH3,<-hH2];exact ((Stp.set _ _ (by simp)).trans (Stp.set _ _ (by simp)) (fun _ h=>h) fun _ h=>.inl h).trans (Stp.set _ _ (by simp)) (fun _ h=>h) fun _ h=>.inl h
        have htx':d.text=p++X3 l++ZX q:=by rw[htx];simp[ZX]
        refine⟨H4,s.tick,hT,q2.stp hS2 (fun a ha=>by simp;exact fun e=>hrA (e ▸ ha)),(q3.mono (B:=d.r::A) fun a ha=>by simp[ha]).trans (hS2.mono (B:=d.r::A) fun a ha=>by rw[zL.1 ha];simp) (fun _ h=>h) (fun _ h=>.inl h),
          ⟨.inl ⟨l,q,p,g4,hrest,htx'⟩,hrA,hd.fit,hd.len,hd.fnd,by rw[hT.files];exact hd.file⟩,.inr ⟨htc,?_,.inr ⟨l,q,p,g4,rfl,htx'⟩⟩⟩
        simp only[go_sem,zC,hnil,W2,l3,l4,l0,l1,l2,q1,zA,zB,ez,s5,s2,s3,Vs,k3,zP,zI,Fp,k5];rfl
theorem ZrH:∃ H' s',Tk s s'/\SysAt H' o t tm s' A/\Stp (d.r::A) H H' /\
    (s'.crashed=true/\Qo [.ptr d.r 0] H=some (.tuple [.str [],.bool false,J xO 19],H')/\RdF H' o tm s' A d \/
     s'.crashed=false/\Qo [.ptr d.r 0] H=some (.tuple [.str (d.rest.headD []),.bool (!d.rest.isEmpty),J xO 0],H')/\RdF H' o tm s' A { d with rest:=d.rest.tail }):=by
  obtain⟨H1,s1,hT,q2,q3,q5,q4⟩:=ZjY h hm hk hc hd;rw[IW];unfold NP;rcases q4 with ⟨c1,q1⟩|⟨c1,q1,q4⟩
  · exact⟨H1,s1,hT,q2,q3,.inl ⟨c1,by simp only[q1,go_sem,zA,zB,QW],q5⟩⟩
  have hfit:YU d.rest.tail=true:=by
    have:=hd.fit
    cases hr:d.rest with
    |nil=>rfl
    |cons a b =>
      rw[hr]at this;simp only[YU,yW,xA]at this;exact this.2
  rcases q4 with ⟨e,p,g1⟩|⟨l,q,p,g1,e,htx⟩
  · refine⟨H1,s1,hT,q2,q3,.inr ⟨c1,?_,⟨.inr (.inl ⟨by show d.rest.tail=[];rw[e];rfl,p,g1⟩),hd.out,hfit,hd.len,hd.fnd,q5.file⟩⟩⟩
    rw[e]at q1 ⊢;simp only[q1,go_sem,zA,zB,yY,zP,QW]
  · have s3:=V9 g1 3 (v:=.bool false) rfl rfl (by simp)
    have g2:=Zq (zD (zM (J2 o d.n (p++X3 l).length true false l) 3 (.bool false))) g1;have s5:=V9 g2 5 (v:=.str []) rfl rfl (by simp);have g3:=Zq (zD (zM (zM (J2 o d.n (p++X3 l).length true false l) 3 (.bool false)) 5 (.str []))) g2;generalize hH2:H1.set d.r (.cells (zM (J2 o d.n (p++X3 l).length true false l) 3 (.bool false)))=H2 at s3 s5 g3;generalize hH3:H2.set d.r (.cells (zM (zM (J2 o d.n (p++X3 l).length true false l) 3 (.bool false)) 5 (.str [])))=H3 at s5 g3
    have hS2:Stp [d.r] H1 H3:=by
      rw[<-hH3,<-hH2];exact (Stp.set _ _ (by simp)).trans (Stp.set _ _ (by simp)) (fun _ h=>h) fun _ h=>.inl h
    refine⟨H3,s1,hT,q2.stp hS2 (fun a ha=>by simp;exact fun e=>hd.out (e ▸ ha)),q3.trans (hS2.mono (B:=d.r::A) fun a ha=>by rw[zL.1 ha];simp) (fun _ h=>h) (fun _ h=>.inl h),.inr ⟨c1,?_,⟨.inr (.inr ⟨p++X3 l,g3,by show d.text=_++ZX d.rest.tail;rw[e];exact htx⟩),hd.out,hfit,hd.len,hd.fnd,q5.file⟩⟩⟩;rw[e]at q1 ⊢;simp only[q1,go_sem,zA,zB,yU,zI,yQ,zC,s3,s5,QW]
end
def Cn (lim c:Nat):Prop:=lim<=262145/\c<=1000000/\(c=0\/lim=262144)
theorem Cn.less {lim c c':Nat}(h:Cn lim c)(hc:c'<=c):Cn lim c':=⟨h.1,by have:=h.2.1;omega,by rcases h.2.2 with h|h <;> omega⟩
theorem Zbo {s:Sto}(hc:s.crashed=false):(∃ c',c'<=s.count/\s.tick={ s with count:=c' })\/0<s.count/\s.tick={ s with crashed:=true,count:=0 }:=by
 unfold Sto.tick;rw[if_neg (by simp[hc])];split
 ·exact .inr ⟨by omega,rfl⟩
 ·exact .inl ⟨s.count-1,xK _ _,rfl⟩
theorem StoOk.alt {s s':Sto}(h:StoOk s)(j:s'.files=s.files)(u:s'.limit<=262144)(y:Zr s.files<=s'.limit)(z:s'.peak<=s'.limit)(C:s'.count<=1000000):StoOk s' :=
 ⟨u,by rw[j];exact y,z,by rw[j];exact h.name,by rw[j];exact h.nd,by rw[j];exact h.syn,by rw[j];exact h.len,by omega⟩
structure XG (B:List Fil)(lim:Nat)(tm:Tmp)(s:Sto)(P:List Pr)(k:Nat):Prop where
 x:XS B tm { s with limit:=262144,count:=0 } P k
 lm:s.limit=min lim 262144
 pk:s.peak<=min lim 262144
 cn:Cn lim s.count
 room:Zr B+ZG P<=min lim 262144
structure Bad (B:List Fil)(lim:Nat)(tm:Tmp)(s:Sto)(e:Int):Prop where
 own:tm.owner=Wu
 cl:tm.closed=false
 ok:TmpOk tm
 num:∀ n∈tm.names,∃ i,1<=i/\i<=128/\n=ZJ i
 sto:StoOk s
 lm:s.limit=min lim 262144
 files:∃ T,s.files=B++T/\∀ f∈T,f.name∈tm.names
 nd:tm.names.Nodup
 err:e=19/\s.crashed=true/\lim=262144\/e=12/\s.crashed=false/\s.count=0/\lim<262144
theorem Bad.ne {B:List Fil}{lim:Nat}{tm:Tmp}{s:Sto}{e:Int}(h:Bad B lim tm s e):(e != 0)=true:=by
 rcases h.err with ⟨rfl,_⟩|⟨rfl,_⟩ <;> rfl
section
variable {B:List Fil}{lim:Nat}{tm:Tmp}{s:Sto}{P:List Pr}{k:Nat}
theorem XG.crashed (h:XG B lim tm s P k):s.crashed=false:=h.x.stE.2.2.2.1
theorem XG.files (h:XG B lim tm s P k):s.files=B++YG P:=h.x.stE.2.2.1
theorem XG.usedF (h:XG B lim tm s P k):Zr s.files=Zr B+ZG P:=by rw[h.files,XQ,JM]
theorem XG.sto (h:XG B lim tm s P k)(hB:BOk B):StoOk s :=
 (h.x.stoOk hB).alt rfl (by rw[h.lm];omega) (by show Zr s.files<=_;rw[h.usedF,h.lm];exact h.room) (by rw[h.lm];exact h.pk) h.cn.2.1
theorem XG.tk (h:XG B lim tm s P k){s':Sto}(j:Tk s s')(hc:s'.crashed=false):XG B lim tm s' P k:=by
 obtain⟨z,u,y,C,D⟩:=h.x.stE;refine⟨⟨h.x.tmE,h.x.sldE,⟨rfl,by show s'.peak<=_;rw[j.peak];exact u,by show s'.files=_;rw[j.files];exact y,hc,rfl⟩,h.x.nd,h.x.num,h.x.kle,h.x.many,h.x.nk,h.x.cost,h.x.fit⟩,by rw[j.limit];exact h.lm,by rw[j.peak];exact h.pk,h.cn.less j.cnt,h.room⟩
theorem XG.names (h:XG B lim tm s P k):∀ n∈tm.names,∃ i,1<=i/\i<=128/\n=ZJ i:=fun n j=>by
 rw[h.x.tmE.2.1]at j;obtain⟨x,hx,rfl⟩:=xC.1 j;obtain⟨i,u,y,e⟩:=h.x.num x hx;have:=h.x.kle;exact⟨i,u,by omega,e⟩
theorem XG.bad (h:XG B lim tm s P k)(hB:BOk B){s':Sto}(j:Tk s s')(hc:s'.crashed=true):Bad B lim tm s' 19 :=
 ⟨h.x.tmE.1,h.x.tmE.2.2.2.2,h.x.tmOk,h.names,j.sto (h.sto hB),by rw[j.limit];exact h.lm,⟨YG P,by rw[j.files];exact h.files,fun f u=>by
  rw[h.x.tmE.2.1,<-Kb];exact zJ u⟩,by rw[h.x.tmE.2.1];exact h.x.nd,.inl ⟨rfl,hc,by
  have:=j.die hc;rcases h.cn.2.2 with h|h
  ·omega
  ·exact h⟩⟩
structure MG (B:List Fil)(lim:Nat)(tm:Tmp)(s:Sto)(P:List Pr)(k:Nat)(tm1:Tmp)(s1:Sto)(x:Zm):Prop where
 xg:XG B lim tm s P k
 tmE:tm1={ tm with last:=tm.last+1,names:=tm.names++[ZJ (k+1)] }
 lm:s1.limit=min lim 262144
 pk:s1.peak<=min lim 262144
 files:s1.files=B++YG P++[⟨ZJ (k+1),x,0⟩]
 crashed:s1.crashed=false
 cn:Cn lim s1.count
 room:Zr B+ZG P+x.length<=min lim 262144
 hk:k<126
 hm:P.length<42
variable {tm1:Tmp}{s1:Sto}{x:Zm}
theorem MG.usedF (h:MG B lim tm s P k tm1 s1 x):Zr s1.files=Zr B+ZG P+x.length:=by
 rw[h.files,XQ,XQ,JM];rfl
theorem MG.sto (h:MG B lim tm s P k tm1 s1 x)(hB:BOk B):StoOk s1:=by
 have u:Zr (B++YG P)+x.length<=262144:=by rw[XQ,JM];have:=h.room;have:=h.cn.1;omega
 refine (h.xg.x.stoX hB h.hm h.hk (x:=x) (j:=0) (pk:=0) (yS _) u (yS _) (s':=⟨262144,0,B++YG P++[⟨ZJ (k+1),x,0⟩],false,0⟩) rfl rfl rfl rfl).alt h.files (by rw[h.lm];omega) ?_ (by rw[h.lm];exact h.pk) h.cn.2.1;rw[<-h.files,h.usedF,h.lm];exact h.room
theorem MG.tmOk (h:MG B lim tm s P k tm1 s1 x):TmpOk tm1:=by rw[h.tmE];exact h.xg.x.tm1 h.hk
theorem MG.tk (h:MG B lim tm s P k tm1 s1 x){s':Sto}(j:Tk s1 s')(hc:s'.crashed=false):MG B lim tm s P k tm1 s' x :=
 ⟨h.xg,h.tmE,by rw[j.limit];exact h.lm,by rw[j.peak];exact h.pk,by rw[j.files];exact h.files,hc,h.cn.less j.cnt,h.room,h.hk,h.hm⟩
theorem MG.names (h:MG B lim tm s P k tm1 s1 x):∀ n∈tm1.names,∃ i,1<=i/\i<=128/\n=ZJ i:=fun n u=>by
 rw[h.tmE]at u;rcases zE.1 u with j|j
 ·exact h.xg.names n j
 ·have:=h.hk;exact⟨k+1,by omega,by omega,zL.1 j⟩
theorem MG.owned (h:MG B lim tm s P k tm1 s1 x){j:Nat}{y:Zm}:∀ f∈YG P++[⟨ZJ (k+1),y,j⟩],f.name∈tm1.names:=fun f z=>by
 rw[h.tmE];rcases zE.1 z with u|u
 ·refine zF _ ?_;rw[h.xg.x.tmE.2.1,<-Kb];exact zJ u
 ·rw[zL.1 u];exact zH _ (by simp)
theorem MG.nd (h:MG B lim tm s P k tm1 s1 x):tm1.names.Nodup:=by
 have:=h.xg.x.nd1 [];rw[zT,<-h.xg.x.tmE.2.1]at this;rw[h.tmE];exact this
theorem MG.bad (h:MG B lim tm s P k tm1 s1 x)(hB:BOk B){s':Sto}(j:Tk s1 s')(hc:s'.crashed=true):Bad B lim tm1 s' 19 :=
 ⟨by rw[h.tmE];exact h.xg.x.tmE.1,by rw[h.tmE];exact h.xg.x.tmE.2.2.2.2,h.tmOk,h.names,j.sto (h.sto hB),by rw[j.limit];exact h.lm,⟨YG P++[⟨ZJ (k+1),x,0⟩],by rw[j.files,h.files,yB],h.owned⟩,h.nd,.inl ⟨rfl,hc,by
  have:=j.die hc;rcases h.cn.2.2 with h|h
  ·omega
  ·exact h⟩⟩
theorem MG.nmem (h:MG B lim tm s P k tm1 s1 x):ZJ (k+1)∈tm1.names:=by rw[h.tmE];simp
theorem MG.nsld (h:MG B lim tm s P k tm1 s1 x):ZJ (k+1)∉tm1.sld:=by rw[h.tmE];exact h.xg.x.unsld
theorem MG.find (h:MG B lim tm s P k tm1 s1 x):YI tm1 (ZJ (k+1))=0:=by
 unfold YI;rw[if_neg (by rw[h.tmE];simp[h.xg.x.tmE.2.2.2.2]),if_pos h.nmem]
theorem XG.create (h:XG B lim tm s P k)(hB:BOk B)(hk:k<126)(hm:P.length<42) :
 (∃ c',c'<=s.count/\s.create (ZJ (k+1))=(0,{ s with count:=c',files:=B++YG P++[⟨ZJ (k+1),[],0⟩] }))\/∃ s1,s.create (ZJ (k+1))=(19,s1)/\Bad B lim tm s1 19:=by
 have z:=Tk.tick h.crashed;have C:(YG P).length=P.length:=zN ..;have y:¬ 64<=s.files.length:=by rw[h.files,zO];have:=hB.len;omega
 have D:ZP s.files (ZJ (k+1))=none:=by rw[h.files];exact h.x.out hB
 unfold Sto.create;rcases Zbo h.crashed with ⟨c',j,u⟩|⟨j,u⟩
 ·rw[u,if_neg (by simp[h.crashed]),if_neg (by rw[ZkB ⟨by omega,by omega⟩];simp),D];dsimp only;rw[if_neg y,h.files];exact .inl ⟨c',j,rfl⟩
 ·rw[u,if_pos rfl];refine .inr ⟨_,rfl,?_⟩;rw[u]at z;exact h.bad hB z rfl
theorem XG.new (h:XG B lim tm s P k)(hB:BOk B)(hk:k<126)(hm:P.length<42) :
 (∃ tm1 s1,AI tm s=((ZJ (k+1),0),(tm1,s1))/\MG B lim tm s P k tm1 s1 [])\/∃ s1,AI tm s=(([],19),(tm,s1))/\Bad B lim tm s1 19:=by
 obtain⟨u,E,F,y,z⟩:=h.x.tmE;have D:JJ tm.owner (tm.last+1)=ZJ (k+1):=by rw[u,y];rfl
 unfold AI;rw[if_neg (by simp[z]),D];rcases h.create hB hk hm with ⟨c',j,hs⟩|⟨s1,hs,C⟩
 ·rw[hs];exact .inl ⟨_,{ s with count:=c',files:=B++YG P++[⟨ZJ (k+1),[],0⟩] },rfl,h,rfl,h.lm,h.pk,rfl,h.crashed,h.cn.less j,by simpa using h.room,hk,hm⟩
 ·rw[hs];exact .inr ⟨s1,rfl,C⟩
theorem MG.write (h:MG B lim tm s P k tm1 s1 x)(hB:BOk B){l:List Zm}(D:YU l=true)(hc:ZG P+x.length+Yc l<=100000) :
 (∃ I,EO tm1 s1 (ZJ (k+1)) l=(0,I)/\MG B lim tm s P k tm1 I (x++ZX l))\/∃ e I,EO tm1 s1 (ZJ (k+1)) l=(e,I)/\Bad B lim tm1 I e:=by
 have R:=hB.used;have M:=Zhd tm1.names s1.files;rw[h.usedF]at M;have O:tm1.limit=262144:=by rw[h.tmE];exact h.xg.x.tmE.2.2.1
 have C:=QU l;have u:=h.xg.x.out hB;unfold EO;rw[if_neg (by rw[h.find];simp),if_neg h.nsld,if_neg (by simp[D]),if_neg (by unfold Ud;omega)];unfold Sto.append;rcases Zbo h.crashed with ⟨c',z,E⟩|⟨z,E⟩
 ·have y:=Tk.tick h.crashed;rw[E]at y;have Q:ZP s1.files (ZJ (k+1))=some ⟨ZJ (k+1),x,0⟩:=by rw[h.files];exact ZmF u _ rfl
  rw[E,if_neg (by simp[h.crashed]),Q];dsimp only;rw[h.usedF,C];by_cases j:s1.limit<Zr B+ZG P+x.length+Yc l
  ·rw[if_pos j];rw[h.lm]at j;have S:s1.count=0:=by rcases h.cn.2.2 with h|h <;> omega
   have K:c'=0:=by omega
   refine .inr ⟨12,_,rfl,by rw[h.tmE];exact h.xg.x.tmE.1,by rw[h.tmE];exact h.xg.x.tmE.2.2.2.2,h.tmOk,h.names,y.sto (h.sto hB),h.lm,⟨YG P++[⟨ZJ (k+1),x,0⟩],by rw[y.files,h.files,yB],h.owned⟩,h.nd,.inr ⟨rfl,h.crashed,K,by omega⟩⟩
  ·rw[if_neg j];have F:X6 s1.files (ZJ (k+1)) (fun f=>{ f with text:=f.text++ZX l })=B++YG P++[⟨ZJ (k+1),x++ZX l,0⟩]:=by rw[h.files];exact ZnC u _ rfl _
   rw[F];have:=h.pk;rw[h.lm]at j;exact .inl ⟨_,rfl,h.xg,h.tmE,h.lm,by show max s1.peak _<=min lim 262144;omega,rfl,h.crashed,h.cn.less z,by rw[zO,C];omega,h.hk,h.hm⟩
 ·have y:=Tk.tick h.crashed;rw[E]at y;rw[E,if_pos rfl];exact .inr ⟨19,_,rfl,h.bad hB y rfl⟩
theorem MG.sync (h:MG B lim tm s P k tm1 s1 x)(hB:BOk B) :
 (∃ c',c'<=s1.count/\s1.sync (ZJ (k+1))=(0,{ s1 with count:=c',files:=B++YG P++[⟨ZJ (k+1),x,x.length⟩] }))\/∃ D,s1.sync (ZJ (k+1))=(19,D)/\Bad B lim tm1 D 19:=by
 have j:=h.xg.x.out hB;have C:=Tk.tick h.crashed;have E:ZP s1.files (ZJ (k+1))=some ⟨ZJ (k+1),x,0⟩:=by rw[h.files];exact ZmF j _ rfl
 have y:X6 s1.files (ZJ (k+1)) (fun f=>{ f with syn:=f.text.length })=B++YG P++[⟨ZJ (k+1),x,x.length⟩]:=by rw[h.files];exact ZnC j _ rfl _
 unfold Sto.sync;rcases Zbo h.crashed with ⟨c',u,z⟩|⟨u,z⟩
 ·rw[z,if_neg (by simp[h.crashed]),E];dsimp only;rw[y];exact .inl ⟨c',u,rfl⟩
 ·rw[z]at C;rw[z,if_pos rfl];exact .inr ⟨_,rfl,h.bad hB C rfl⟩
theorem MG.seal {l:List Zm}(h:MG B lim tm s P k tm1 s1 (ZX l))(hB:BOk B)(u:YU l=true)(hc:ZG P+Yc l<=100000) :
 (∃ y j,CQ tm1 s1 (ZJ (k+1))=(0,(y,j))/\XG B lim y j (P++[(ZJ (k+1),l)]) (k+1))\/∃ j,CQ tm1 s1 (ZJ (k+1))=(19,(tm1,j))/\Bad B lim tm1 j 19:=by
 have F:=QU l;unfold CQ;rw[if_neg (by rw[h.find];simp)];rcases h.sync hB with ⟨c',z,hs⟩|⟨j,hs,D⟩
 ·rw[hs,if_neg (by simp)];have I:=h.pk;have E:=h.cn.1;have C:=h.room;refine .inl ⟨_,_,rfl,h.xg.x.add u h.hk h.hm hc (pk:=s1.peak) (by omega) (by rw[h.tmE]) ?_,h.lm,h.pk,h.cn.less z,?_⟩
  ·have:=h.crashed;show (⟨262144,s1.peak,B++YG P++[⟨ZJ (k+1),ZX l,(ZX l).length⟩],s1.crashed,0⟩:Sto)=_;rw[this]
  ·rw[Zk9];show Zr B+(ZG P+(Yc l+0))<=min lim 262144;omega
 ·rw[hs,if_pos (by simp)];exact .inr ⟨j,rfl,D⟩
theorem XG.remove (h:XG B lim tm s P k)(hB:BOk B){x:Pr}(hx:x∈P) :
 (∃ s',s.remove x.1=(0,s')/\∀ sl:List Zm,(∀ y∈sl,y∈tm.sld)->XG B lim { tm with names:=WE x.1 tm.names,sld:=sl } s' (XM x.1 P) k)\/∃ s',s.remove x.1=(19,s')/\Bad B lim tm s' 19:=by
 have D:=Tk.tick h.crashed;have E:=h.x.get hB hx;have z:ZP s.files x.1=some ⟨x.1,ZX x.2,(ZX x.2).length⟩:=E;unfold Sto.remove;rcases Zbo h.crashed with ⟨c',j,u⟩|⟨j,u⟩
 ·rw[u,if_neg (by simp[h.crashed]),z];refine .inl ⟨_,rfl,fun sl C=>⟨h.x.remove hB hx C,h.lm,h.pk,h.cn.less j,?_⟩⟩;have:=SE (fun y=>!(y.1==x.1)) P;have:=h.room;unfold XM;omega
 ·rw[u]at D;rw[u,if_pos rfl];exact .inr ⟨_,rfl,h.bad hB D rfl⟩
end
theorem ZnI {H:Hp}{o t:Nat}{A:List Nat}{B:List Fil}(hB:BOk B){lim:Nat}{tm:Tmp}{s:Sto}{P:List Pr}{k:Nat}(hX:XG B lim tm s P k)(hkk:k<126)(hmn:P.length<42)(h:SysAt H o t tm s A)
    {a q x:AV} {L:Loc} {p:Spec} {l:List Zl} (ha:LocAV a L) (hok:LocOk L) (hq:SpecAV q p) (hks:∀ k∈p.keys,KeOk k) (hx:SS x l) (hL:We l) (hl:l.length<=1048576)
    (hfit:YU (ZO L p l)=true) (hc:ZG P+Yc (ZO L p l)<=100000) :
    ∃ H' A' tm' s',SysRes H H' o t tm' s' A A'/\(GP [.ptr o 0,a,q,x] H=some (.tuple [.str (ZJ (k+1)),J xO 0],H')/\XG B lim tm' s' (P++[(ZJ (k+1),ZO L p l)]) (k+1) \/
      ∃ e,GP [.ptr o 0,a,q,x] H=some (.tuple [.str [],J xO e],H')/\Bad B lim tm' s' e):=by
  have hLs:We (ZO L p l):=fun s hs=>hL s (AC L p l s hs);have hav:=ha;have hqv:=hq;obtain⟨lx,lc,le,rfl,hlx,hlc,hle⟩:=ha;obtain⟨xp,rfl,hxp⟩:=hq;have hnil:Yr (.pointer 124) .eql (.ptr o 0) .nilp=some (.bool false):=rfl;have hAlt:=h.lt;have g1:(H++[zD (L.cells lx lc le),.cells (p.cells xp)])[H.length]?=some (.cells (L.cells lx lc le)):=by simp
  have g2:(H++[zD (L.cells lx lc le),.cells (p.cells xp)])[H.length+1]?=some (.cells (p.cells xp)):=by simp
  have hS0:Stp A H (H++[zD (L.cells lx lc le),.cells (p.cells xp)]):=Stp.push _ _;have hlen0:(H++[zD (L.cells lx lc le),.cells (p.cells xp)]).length=H.length+2:=by simp
  have hsys0:SysAt (H++[zD (L.cells lx lc le),.cells (p.cells xp)]) o t tm s A:=h.stp (C:=[]) (Stp.push _ _) (fun a ha=>by simp);have hbx:ZQ (.agg (p.cells xp)) (H++[zD (L.cells lx lc le)])=some (.ptr (H.length+1) 0,H++[zD (L.cells lx lc le),.cells (p.cells xp)]):=by rw[Yu];simp
  generalize hH0:H++[zD (L.cells lx lc le),.cells (p.cells xp)]=H0 at g1 g2 hS0 hsys0 hbx hlen0;have hlast:tm.last<1000000:=by rw[hX.x.tmE.2.2.2.1];omega
  obtain⟨H1,A1,p1,p2⟩:=ZlH hsys0 hX.x.tmOk (hX.sto hB) hlast;have e0:((0:Int) != 0)=false:=rfl;have e19:((19:Int) != 0)=true:=rfl
  have hstart:GP [.ptr o 0,.agg (L.cells lx lc le),.agg (p.cells xp),x] H=L5 (.ptr o 0) x (.ptr H.length 0) (.ptr (H.length+1) 0) H H0:=by
    rw[Zho];unfold ZcX;simp only[Yu,go_sem,hbx,hnil]
  rcases hX.new hB hkk hmn with ⟨tm1,s1,hN,hM⟩|⟨s1,hN,hb⟩
  · rw[hN]at p1 p2
    have hnA:∀ i,H.length<=i->i∉A:=fun i hi ha=>by have:=hAlt i ha;omega
    have g1':=p2.stp.get g1 (hnA _ (zK _));have g2':=p2.stp.get g2 (hnA _ (by omega));obtain⟨y,q1,q2⟩:=ZeA hav hok hqv hks hx hL hl H1;obtain⟨H2,A2,r1,r2⟩:=Zk2 p2.at' hM.tmOk (hM.sto hB) (ZJ (k+1)) q2 hLs (by omega);rcases hM.write hB hfit (by show ZG P+0+Yc (ZO L p l)<=_;omega) with ⟨s2,hW,hM2⟩|⟨e,s2,hW,hb⟩
    · rw[hW]at r1 r2
      rw[yR]at hM2;obtain⟨H3,A3,t1,t2⟩:=ZlF r2.at' hM2.tmOk (hM2.sto hB) (ZJ (k+1));rcases hM2.seal hB hfit (by omega) with ⟨tm3,s3,hS,hX3⟩|⟨s3,hS,hb⟩
      · rw[hS]at t1 t2
        refine⟨H3,A3,tm3,s3,SysRes.pre hS0 ((p2.trans r2).trans t2),.inl ⟨?_,hX3⟩⟩;rw[hstart];simp only[go_sem,Kr,p1,zA,zB,e0,R5,Mk g1',QE g2',q1,r1,Ce,t1,Cf]
      · rw[hS]at t1 t2
        refine⟨H3,A3,tm1,s3,SysRes.pre hS0 ((p2.trans r2).trans t2),.inr ⟨19,?_,hb⟩⟩;rw[hstart];simp only[go_sem,Kr,p1,zA,zB,e0,e19,R5,Mk g1',QE g2',q1,r1,Ce,t1,Cf]
    · rw[hW]at r1 r2
      have he:=hb.ne;refine⟨H2,A2,tm1,s2,SysRes.pre hS0 (p2.trans r2),.inr ⟨e,?_,hb⟩⟩;rw[hstart];simp only[go_sem,Kr,p1,zA,zB,e0,he,R5,Mk g1',QE g2',q1,r1]
  · rw[hN]at p1 p2
    refine⟨H1,A1,tm,s1,SysRes.pre hS0 p2,.inr ⟨19,?_,hb⟩⟩;rw[hstart];simp only[go_sem,Kr,p1,zA,zB,e19]
theorem ZeI {o g t:Nat}{L:Loc}{lx c e:AV}{p:Spec}{xp:AV}{B:List Fil}{lim:Nat}{tm:Tmp}{s:Sto}{P R:List Pr}{k:Nat}{A S:List Nat}{st:Stt}{H:Hp}(hB:BOk B)(hX:XG B lim tm s P k)(h:SysAt H o t tm s A)(hS:SrAt H g o A L lx c e p xp R st S) :
    ∃ H',Wh [.ptr g 0] H=some (.tuple [],H')/\SysAt H' o t tm s A/\SrAt H' g o A L lx c e p xp R { st with k:=max st.k (ZG P:Int) } S/\Stp S H H':=by
  obtain⟨x,h1,h2,h3,h4,rfl⟩:=hS;have hu:=Zx9 h hX.x.tmOk (hX.sto hB);have hu3:Ud tm { s with limit:=262144,count:=0 }=ZG P:=hX.x.used hB;have hu2:Ud tm s=ZG P:=hu3;rw[if_neg (by simp[hX.x.tmE.2.2.2.2]),hu2]at hu;have l16:=ZN h1 16 (v:=J xO st.k) rfl;have l0:=ZN h1 0 (v:=.ptr o 0) rfl;have s16:=V9 h1 16 (v:=J xO (max st.k (ZG P:Int))) rfl rfl (by rw[EN];omega);have hset:(W4 o L lx c e p xp x st).set 16 (J xO (max st.k (ZG P:Int)))=W4 o L lx c e p xp x { st with k:=max st.k (ZG P:Int) }:=rfl;rw[hset]at s16;have hst:Stp (g::ZI x) H (H.set g (.cells (W4 o L lx c e p xp x { st with k:=max st.k (ZG P:Int) }))):=Stp.set _ _ (by simp);refine⟨_,?_,h.stp hst fun a ha hg=>h3 a hg ha,⟨x,Zq _ h1,h2.frame fun a ha=>?_,h3,h4,rfl⟩,hst⟩
  · rw[EY]
    unfold Rk;simp only[go_sem,zC,yH,l16,l0,hu,s16]
  · refine yO fun e=>?_
    rw[zU]at h4;exact h4.1 (e ▸ ha)
theorem ZlI {H:Hp}{o t:Nat}{A:List Nat}{B0:List Fil}(hB:BOk B0){lim:Nat}{tm:Tmp}{s:Sto}{P:List Pr}{k:Nat}(hX:XG B0 lim tm s P k)(h:SysAt H o t tm s A){x:Pr}(hx:x∈P) :
    ∃ H' A' tm' s',SysRes H H' o t tm' s' A A'/\(WW [.ptr o 0,.str x.1] H=some (J xO 0,H')/\XG B0 lim tm' s' (XM x.1 P) k\/WW [.ptr o 0,.str x.1] H=some (J xO 19,H')/\Bad B0 lim tm' s' 19):=by
  have hm:=hX.x.tmOk;have hf:=hX.x.find hx;have hne:tm.names≠[]:=by rw[hX.x.tmE.2.1];exact List.ne_nil_of_mem (zJ hx)
  have hk:=hX.sto hB;obtain⟨B,S,⟨ms,clk,nx,sl,h1,rfl⟩,h2,h3,rfl⟩:=h;have hfr:=SW h1 hm x.1;have e0:(YI tm x.1 != 0)=false:=by rw[hf];rfl
  have ez:((0:Int) != 0)=false:=rfl;have l0:=ZN h1.cells 0 (v:=.ptr t 0) rfl;obtain⟨H1,S1,r1,r2⟩:=E6 h2 hk x.1;have e19:((19:Int) != 0)=true:=rfl;rcases hX.remove hB hx with ⟨s',hrem,hX'⟩|⟨s',hrem,hb⟩
  rotate_left
  · rw[hrem]at r1 r2
    refine⟨H1,_,tm,s',SysAt.store (o:=o) (tm:=tm) ⟨ms,clk,nx,sl,h1,rfl⟩ h3 r2,.inr ⟨?_,hb⟩⟩;rw[KM];unfold Qa;simp only[hfr,go_sem,e0,JR,zC,l0,r1,e19]
  rw[hrem]at r1 r2;have hr1:=SysAt.store (o:=o) (tm:=tm) ⟨ms,clk,nx,sl,h1,rfl⟩ h3 r2;have h1':TmAt H1 o t ms clk nx sl tm:=h1.frame fun a ha=>r2.stp.at' a (h1.lt a ha) (h3 a ha);obtain⟨H2,nx2,sl2,q1,q2,q3,q4,q5⟩:=Zih h1' hm x.1 hne;have hS1lt:=r2.at'.lt
  have hd1:∀ a∈o::ms::ZI nx,a∉S1:=fun a ha hs=>by
    rcases r2.own a hs with k1|k1
    · exact h3 a ha k1
    · have:=h1.lt a ha;omega
  have hsto2:StoreAt H2 t s' S1:=r2.at'.stp q3 fun a ha hx=>hd1 a hx ha
  have hd2:∀ a∈o::ms::ZI nx2,a∉S1:=fun a ha hs=>by
    rcases zG.1 ha with e|ha
    · exact hd1 a (by simp[e]) hs
    rcases zG.1 ha with e|ha
    · exact hd1 a (by simp[e]) hs
    · have:=q4 a ha
      have:=hS1lt a hs;omega
  have hlo:=r2.stp.len;have hl0:H.length<=H1.length:=hlo;refine⟨H2,(o::ms::ZI nx2)++S1,_,s',⟨⟨_,S1,⟨ms,clk,nx2,sl2,q2,rfl⟩,hsto2,hd2,rfl⟩,hr1.stp.trans q3 (fun _ h=>h) fun a ha=>.inl (zF _ ha),fun a ha=>?_⟩,.inl ⟨?_,hX' (sl2.map (·.1)) fun x hx=>by rw[<-h1.sld];exact q5 x hx⟩⟩
  rotate_left
  · rw[KM]
    unfold Qa;simp only[hfr,go_sem,e0,JR,zC,l0,r1,ez,My,q1]
  · rcases zE.1 ha with k|k
    · rcases zG.1 k with e|k
      · exact .inl (by simp[e])
      rcases zG.1 k with e|k
      · exact .inl (by simp[e])
      · have:=q4 a k;exact .inr (by omega)
    · rcases r2.own a k with k1|k1
      · exact .inl (zH _ k1)
      · exact .inr k1
section
variable {o g t:Nat}{L:Loc}{lx cl e:AV}{p:Spec}{xp:AV}{B:List Fil}(hB:BOk B){lim:Nat}
  (hl:LocAV (.agg (L.cells lx cl e)) L) (hok:LocOk L) (hs:SpecAV (.agg (p.cells xp)) p) (hks:∀ k∈p.keys,KeOk k)
  {x13:AV} {cs:List (List Zl)} (hx:LsV x13 cs) (hcl:cs.length<=40) (hcs:∀ c∈cs,c.length<=40/\∀ s∈c,s.length<=200)
include hB hl hok hs hks hx hcl hcs
theorem ZoX (H0:Hp):∀ (r d:List (List Zl)) (P:List Pr) (k:Nat) (st:Stt) (tm:Tmp) (s:Sto) (A S:List Nat) (H:Hp),cs=d++r->k+r.length<=60->P.length+r.length<=41->ShortP P->ZZ P+r.flatten.length<=80 ->
    0<=st.r/\st.r+(r.length:Int)<=1000->XG B lim tm s P k->SysAt H o t tm s A->SrAt H g o A L lx cl e p xp P st S ->
    ∃ H' A' tm' s',SysAt H' o t tm' s' A'/\Stp (S++A) H H'/\(∀ a∈A',a∈A\/H.length<=a) /\
      ((∃ S',YC (.ptr g 0) x13 (J xO (cs.length:Int)) (J xO (d.length:Int)) H0 H=some (J xO 0,H')/\XG B lim tm' s' (wP L p P k r) (k+r.length) /\
        SrAt H' g o A' L lx cl e p xp (wP L p P k r) (wT L p P k st r) S'/\(∀ a∈S',a∈S\/H.length<=a)) \/
       ∃ er,YC (.ptr g 0) x13 (J xO (cs.length:Int)) (J xO (d.length:Int)) H0 H=some (J xO er,H')/\Bad B lim tm' s' er):=by
  intro r
  induction r with
  |nil =>
    intro d P k st tm s A S H hd _ _ _ _ _ hX hsys hS;rw[zR]at hd;subst hd;have hlt:decide ((cs.length:Int)<(cs.length:Int))=false:=by simp
    refine⟨H,A,tm,s,hsys,Stp.refl _ _,fun a h=>.inl h,.inl ⟨S,?_,hX,hS,fun a h=>.inl h⟩⟩;rw[U1];simp only[go_sem,hlt,MQ]
  |cons ch r ih =>
    intro d P k st tm s A S H hd hk hm hsh hln hst hX hsys hS;have hlen:cs.length=d.length+(r.length+1):=by rw[hd];simp
    simp only[yL,List.flatten_cons,zO]at hk hm hln;rw[yL]at hst;have hlt:decide ((d.length:Int)<(cs.length:Int))=true:=by rw[decide_eq_true_eq];omega
    have hin:cs[d.length]?=some ch:=by rw[hd,zW (zK _)];simp
    obtain⟨c1,c2⟩:=hcs ch (zV hin);obtain⟨pt,av,q1,q2,q3⟩:=hx.get hin H;have hw1:xN.wrap ((d.length:Int)+1)=((d++[ch]).length:Int):=by rw[Zp (by omega) (by omega)];simp
    have hSo:=hS.off;have hSl:=hS.lt;have hAl:=hsys.lt;obtain⟨x,g1,g2,g3,g4,g5⟩:=hS;have l0:=ZN g1 0 (v:=.ptr o 0) rfl;have l1:=ZjS g1;have l7:=Zha g1;have hso:(ZO L p ch).length<=ch.length:=Zez L p ch;have hshort:∀ y∈ZO L p ch,y.length<=200:=fun y hy=>c2 y (AC L p ch y hy)
    have hfitl:YU (ZO L p ch)=true:=by
      unfold YU;rw[xB];intro y hy;have:=hshort y hy;simp;omega
    have hcR:=Zkb _ hshort;have hcP:=hsh.cost;have hm1:(ZO L p ch).length*206<=40*206:=yE _ (by omega);have hm2:ZZ P*206<=80*206:=yE _ (by omega);have hcost:ZG P+Yc (ZO L p ch)<=100000:=by omega
    have hsh':ShortP (P++[Ri L p k ch]):=fun y hy=>by
      rcases zE.1 hy with h|h
      · exact hsh y h
      · rw[zL.1 h];exact ZrF c2
    obtain⟨H1,A1,tm3,s3,r2,r1⟩:=ZnI hB hX (by omega) (by omega) hsys hl hok hs hks q3 (fun y hy=>by have:=c2 y hy;omega) (by omega) hfitl hcost;have b1:Stp (S++A) H H1:=r2.stp.mono fun a ha=>zH _ ha;have e0:((0:Int) != 0)=false:=rfl;rcases r1 with ⟨r1,w7⟩|⟨er,r1,hb⟩
    rotate_left
    · have he:=hb.ne
      refine⟨H1,A1,tm3,s3,r2.at',b1,r2.own,.inr ⟨er,?_,hb⟩⟩;rw[U1];simp only[go_sem,hlt,KQ,q1,q2,zC,l0,l1,l7,r1,zA,zB,he]
    have hS1:SrAt H1 g o A1 L lx cl e p xp P st S:=SrAt.stp ⟨x,g1,g2,g3,g4,g5⟩ r2.stp hSo r2.own;obtain⟨H2,u1,u2,u3,u4⟩:=ZeI hB w7 r2.at' hS1
    -- the name is kept
    obtain⟨x2,k1,k2,k3,k4,k5⟩:=u3;have l12:=ZN k1 12 (v:=x2) rfl;obtain⟨x3,H3,n1,n2,n3,n4,n5,n6,n7⟩:=k2.app (ZJ (k+1)) (by simp;omega);have k4':=zU.1 k4;have k1':H3[g]?=some (.cells (W4 o L lx cl e p xp x2 { st with k:=max st.k (ZG (P++[(ZJ (k+1),ZO L p ch)]):Int) })):=n3.get k1 k4'.1;have s12:=V9 k1' 12 (v:=x3) n5 n6 (by rw[EN];omega);have e12:((W4 o L lx cl e p xp x2 { st with k:=max st.k (ZG (P++[(ZJ (k+1),ZO L p ch)]):Int) }).set 12 x3)=W4 o L lx cl e p xp x3 { st with k:=max st.k (ZG (P++[(ZJ (k+1),ZO L p ch)]):Int) }:=rfl;rw[e12]at s12;have j12:=Zq (zD (W4 o L lx cl e p xp x3 { st with k:=max st.k (ZG (P++[(ZJ (k+1),ZO L p ch)]):Int) })) k1';generalize hH4:H3.set g (.cells (W4 o L lx cl e p xp x3 { st with k:=max st.k (ZG (P++[(ZJ (k+1),ZO L p ch)]):Int) }))=H4 at s12 j12;have l13:=ZN j12 13 (v:=J xO st.r) rfl;have wr:xN.wrap (st.r+1)=st.r+1:=Zp (by omega) (by omega);have s13:=V9 j12 13 (v:=J xO (st.r+1)) rfl rfl (by rw[EN];omega);have e13:((W4 o L lx cl e p xp x3 { st with k:=max st.k (ZG (P++[(ZJ (k+1),ZO L p ch)]):Int) }).set 13 (J xO (st.r+1)))=W4 o L lx cl e p xp x3 { st with r:=st.r+1,k:=max st.k (ZG (P++[(ZJ (k+1),ZO L p ch)]):Int) }:=rfl;rw[e13]at s13;have j13:=Zq (zD (W4 o L lx cl e p xp x3 { st with r:=st.r+1,k:=max st.k (ZG (P++[(ZJ (k+1),ZO L p ch)]):Int) })) j12;generalize hH5:H4.set g (.cells (W4 o L lx cl e p xp x3 { st with r:=st.r+1,k:=max st.k (ZG (P++[(ZJ (k+1),ZO L p ch)]):Int) }))=H5 at s13 j13;have l15:=ZN j13 15 (v:=J xO st.y) rfl;have hct:=Zq5 q3 (fun y hy=>by have:=c2 y hy;omega) (by omega) H5;have s15:=V9 j13 15 (v:=J xO (max st.y (W5 cS ch))) rfl rfl (by rw[EN];omega);have e15:((W4 o L lx cl e p xp x3 { st with r:=st.r+1,k:=max st.k (ZG (P++[(ZJ (k+1),ZO L p ch)]):Int) }).set 15 (J xO (max st.y (W5 cS ch))))=W4 o L lx cl e p xp x3 ⟨st.r+1,st.m,max st.y (W5 cS ch),max st.k (ZG (P++[(ZJ (k+1),ZO L p ch)]):Int)⟩:=rfl;rw[e15]at s15;have j15:=Zq (zD (W4 o L lx cl e p xp x3 ⟨st.r+1,st.m,max st.y (W5 cS ch),max st.k (ZG (P++[(ZJ (k+1),ZO L p ch)]):Int)⟩)) j13;have t4:Stp [g] H3 H4:=by rw[<-hH4];exact Stp.set _ _ (by simp)
    have t5:Stp [g] H4 H5:=by rw[<-hH5];exact Stp.set _ _ (by simp)
    have t6:Stp [g] H5 (H5.set g (.cells (W4 o L lx cl e p xp x3 ⟨st.r+1,st.m,max st.y (W5 cS ch),max st.k (ZG (P++[(ZJ (k+1),ZO L p ch)]):Int)⟩))):=Stp.set _ _ (by simp);generalize hH6:H5.set g (.cells (W4 o L lx cl e p xp x3 ⟨st.r+1,st.m,max st.y (W5 cS ch),max st.k (ZG (P++[(ZJ (k+1),ZO L p ch)]):Int)⟩))=H6 at s15 j15 t6;have t36:Stp [g] H3 H6:=(t4.trans t5 (fun _ h=>h) fun a h=>.inl h).trans t6 (fun _ h=>h) fun a h=>.inl h;have t26:Stp (g::ZI x2) H2 H6:=(n3.mono fun a ha=>yF _ ha).trans t36 (fun _ h=>h) fun a h=>.inl (by rw[zL.1 h];simp);have hgS:∀ a∈g::ZI x2,a∈S:=fun a ha=>by rw[k5];exact ha
    have hl12:=u4.len;have hl01:=r2.stp.len;have hl26:=t26.len;have hA1l:=r2.at'.lt;have hsys6:SysAt H6 o t tm3 s3 A1:=u2.stp t26 fun a ha hg=>k3 a hg ha;have hx3lt:∀ a∈ZI x3,a∈ZI x2\/a=H2.length:=n4
    have hSr6:SrAt H6 g o A1 L lx cl e p xp (P++[Ri L p k ch]) ⟨st.r+1,st.m,max st.y (W5 cS ch),max st.k (ZG (P++[Ri L p k ch]):Int)⟩ (g::ZI x3):=by
      have hgl:=Zg k1
      have hgx3:g∉ZI x3:=fun hg=>by
        rcases hx3lt g hg with h|h
        · exact k4'.1 h
        · omega
      refine⟨x3,j15,?_,fun a ha hA=>?_,zU.2 ⟨hgx3,n7⟩,rfl⟩
      · have:(P++[Ri L p k ch]).map (·.1)=P.map (·.1)++[ZJ (k+1)]:=by simp[Ri]
        rw[this];exact n2.frame fun a ha=>t36.at' a (n2.lt a ha) (by simp;exact fun e=>hgx3 (e ▸ ha))
      · rcases zG.1 ha with h|h
        · exact k3 g (by simp) (h ▸ hA)
        · rcases hx3lt a h with h|h
          · exact k3 a (by simp[h]) hA
          · have:=hA1l a hA;omega
    have ih':=ih (d++[ch]) (P++[Ri L p k ch]) (k+1) ⟨st.r+1,st.m,max st.y (W5 cS ch),max st.k (ZG (P++[Ri L p k ch]):Int)⟩ tm3 s3 A1 (g::ZI x3) H6 (by rw[hd];simp) (by omega) (by simp;omega) hsh' (by
      rw[Kg];simp only[ZZ,Ri];omega) ⟨by show 0<=st.r+1;omega,by show st.r+1+(r.length:Int)<=1000;omega⟩ w7 hsys6 hSr6
    obtain⟨H',A',tm',s',m2,m5,m6,m1⟩:=ih';have hA1o:=r2.own
    have hSx:∀ a∈g::ZI x3,a∈S\/H.length<=a:=fun a ha=>by
      rcases zG.1 ha with h|h
      · exact .inl (h ▸ hgS g (by simp))
      · rcases hx3lt a h with h|h
        · exact .inl (hgS a (by simp[h]))
        · exact .inr (by omega)
    have hone:(ZB 1 [(0,yZ (ZJ (k+1)))] [(.str [])]).map (AV.vs 1 .clip)=some (.vs 1 .clip [.str (ZJ (k+1))]):=rfl
    have hstep:YC (.ptr g 0) x13 (J xO (cs.length:Int)) (J xO (d.length:Int)) H0 H=YC (.ptr g 0) x13 (J xO (cs.length:Int)) (J xO ((d++[ch]).length:Int)) H0 H6:=by
      rw[U1];simp only[go_sem,hlt,KQ,q1,q2,zC,l0,l1,l7,r1,zA,zB,e0,MS,u1,l12,hone,n1,s12,yH,yK,l13,wr,s13,l15,hct,s15,MR,hw1]
    have b2:Stp (S++A) H H2:=b1.trans u4 (fun _ h=>h) fun a h=>.inl (zF _ h);have b3:Stp (S++A) H H6:=b2.trans t26 (fun _ h=>h) fun a h=>.inl (zF _ (hgS a h));rw[hstep,show k+(ch::r).length=k+1+r.length by simp;omega];refine⟨H',A',tm',s',m2,b3.trans m5 (fun _ h=>h) fun a h=>?_,fun a ha=>?_,m1.imp (fun⟨S',n1,n2,n3,n4⟩=>⟨S',n1,n2,n3,fun a ha=>?_⟩) id⟩
    · rcases zE.1 h with h|h
      · exact (hSx a h).imp (fun h=>zF _ h) id
      · exact (hA1o a h).imp (fun h=>zH _ h) id
    · rcases m6 a ha with h|h
      · exact hA1o a h
      · exact .inr (by omega)
    · rcases n4 a ha with h|h
      · exact hSx a h
      · exact .inr (by omega)
end
section
variable {o t g b w:Nat}{tm:Tmp}{A:List Nat}{L:Loc}{lx c e:AV}{p:Spec}{xp:AV}{rx:AV}{last:Zm}{has:Bool}{ds:List Rd}{N:Nat}
  (hm:TmpOk tm)
  (hl:LocAV (.agg (L.cells lx c e)) L) (hok:LocOk L) (hs:SpecAV (.agg (p.cells xp)) p) (hks:∀ k∈p.keys,KeOk k)
  (hrx:Sl 1 rx (ds.map rdV)) (hnd:(ds.map Rd.r).Nodup) (hlen:ds.length<=1048576)
  (hgA:g∉A) (hbA:b∉A) (hwA:w∉A) (hgd:g∉ds.map Rd.r) (hbd:b∉ds.map Rd.r) (hwd:w∉ds.map Rd.r) (hgw:g≠w) (hbw:b≠w)
include hm hl hok hs hks hrx hnd hlen hgA hbA hwA hgd hbd hwd hgw hbw
theorem Zrs (H0:Hp):∀ (q d:List Rd) (o':Option (Nat×Zl)) (H:Hp) (s:Sto),ds=d++q->StoOk s->s.crashed=false->SysAt H o t tm s A->(∀ x∈ds,RdF H o tm s A x)->(∀ k a,o'=some (k,a)->a.length<=1048576) ->
    H[g]?=some (.cells (KV L lx c e p xp (ZK p==0) rx last has))->H[b]?=some (.cells [.ptr g 0])->H[w]?=some (.cells (Gu o')) ->
    ∃ H' s',Tk s s'/\SysAt H' o t tm s' A/\Stp (w::ds.map Rd.r++A) H H'/\(∀ x∈ds,RdF H' o tm s' A x) /\
      (s'.crashed=true/\Yl (.ptr b 0) (.ptr w 0) (.fn (.func 128) [] [.ptr b 0]) (J xO 0) rx (J xO (ds.length:Int)) (J xO (d.length:Int)) H0 H=WG (.ptr b 0) (.ptr w 0) (J xO 19) H0 H' \/
       s'.crashed=false/\Yl (.ptr b 0) (.ptr w 0) (.fn (.func 128) [] [.ptr b 0]) (J xO 0) rx (J xO (ds.length:Int)) (J xO (d.length:Int)) H0 H=WG (.ptr b 0) (.ptr w 0) (J xO 0) H0 H' /\
        H'[w]?=some (.cells (Gu (Tn (Q1 L p) (q.map Rd.rest) d.length o')))):=by
  intro q
  induction q with
  |nil =>
    intro d o' H s hd hk hc hsys hrd ho hg hb hw;rw[zR]at hd;subst hd;have hlt:decide ((ds.length:Int)<(ds.length:Int))=false:=by simp
    refine⟨H,s,Tk.refl hc,hsys,Stp.refl _ _,hrd,.inr ⟨hc,?_,hw⟩⟩;rw[V1];simp only[go_sem,hlt]
  |cons x q ih =>
    intro d o' H s hd hk hc hsys hrd ho hg hb hw;have hlen2:ds.length=d.length+(q.length+1):=by rw[hd];simp
    have hlt:decide ((d.length:Int)<(ds.length:Int))=true:=by rw[decide_eq_true_eq];omega
    have hw1:xN.wrap ((d.length:Int)+1)=((d.length+1:Nat):Int):=by rw[Zp (by omega) (by omega)];omega
    have hxm:x∈ds:=by rw[hd];simp
    have hxr:x.r∈ds.map Rd.r:=zJ hxm;have hin:(ds.map rdV)[d.length]?=some (rdV x):=by rw[zX,hd,zW (zK _)];simp
    have hidx:Zo 1 rx (J xO (d.length:Int))=some (.vp [.ptr x.r 0]):=Sl.idx hrx hin;obtain⟨H1,s1,hT,p2,p3,p4,p5⟩:=ZjY hsys hm hk hc (hrd x hxm)
    have keep:∀ a,a∉ds.map Rd.r->a∉A->∀ v,H[a]?=some v->H1[a]?=some v:=fun a h1 h2 v hv=>p3.get hv fun h=>by
      rcases zG.1 h with e|h
      · exact h1 (e ▸ hxr)
      · exact h2 h
    have hg1:=keep g hgd hgA _ hg;have hb1:=keep b hbd hbA _ hb;have hwH1:=keep w hwd hwA _ hw
    have hrd1:∀ y∈ds,RdF H1 o tm s1 A y:=fun y hy=>by
      by_cases e:y.r=x.r
      · have:y=x:=by
          obtain⟨i,hi⟩:=yG hy;obtain⟨j,hj⟩:=yG hxm;have h1:(ds.map Rd.r)[i]?=some x.r:=by rw[zX,hi,<-e];rfl
          have h2:(ds.map Rd.r)[j]?=some x.r:=by rw[zX,hj];rfl
          have:=(List.getElem?_inj (Zg h1) hnd).1 (h1.trans h2.symm);subst this;rw[hi]at hj;injection hj
        rw[this];exact p4
      · exact ((hrd y hy).tk hT).frame (p3.at' y.r (hrd y hy).lt fun h=>by
          rcases zG.1 h with e'|h
          · exact e e'
          · exact (hrd y hy).out h)
    have hS1:Stp (w::ds.map Rd.r++A) H H1:=p3.mono fun a ha=>by
      rcases zG.1 ha with e'|h
      · subst e';simp[hxr]
      · simp[h]
    have e0:((0:Int) != 0)=false:=rfl;have e19:((19:Int) != 0)=true:=rfl;rcases p5 with ⟨c1,p1⟩|⟨c1,p1,_⟩
    · refine⟨H1,s1,hT,p2,hS1,hrd1,.inl ⟨c1,?_⟩⟩
      rw[V1];simp only[go_sem,hlt,Qe,hidx,Zz,p1,zA,zB,e19]
    have hk1:=hT.sto hk
    cases hr:x.rest with
    |nil =>
      rw[hr]at p1;obtain⟨H2,s2,hT2,m2,m3,m4,m5⟩:=ih (d++[x]) o' H1 s1 (by rw[hd];simp) hk1 c1 p2 hrd1 ho hg1 hb1 hwH1
      have hstep:Yl (.ptr b 0) (.ptr w 0) (.fn (.func 128) [] [.ptr b 0]) (J xO 0) rx (J xO (ds.length:Int)) (J xO (d.length:Int)) H0 H=Yl (.ptr b 0) (.ptr w 0) (.fn (.func 128) [] [.ptr b 0]) (J xO 0) rx (J xO (ds.length:Int)) (J xO ((d++[x]).length:Int)) H0 H1:=by
        rw[V1,zO,zS];simp only[go_sem,hlt,Qe,hidx,Zz,p1,zA,zB,e0,yY,zP,Dd,Dc,hw1]
      rw[hstep,yM,hr];rw[zO,zS]at m5 ⊢;exact⟨H2,s2,hT.trans hT2,m2,hS1.trans m3 (fun _ h=>h) (fun _ h=>.inl h),m4,m5⟩
    |cons a rr =>
      rw[hr]at p1
      have hal:a.length<=1048576:=by
        have:=(hrd x hxm).fit;rw[hr]at this;simp only[YU,yW,xA,decide_eq_true_eq]at this;omega
      obtain⟨H2,r1,r2,r3⟩:=Zty (lt:=Q1 L p) (fv:=.fn (.func 128) [] [.ptr b 0]) hwH1 a d.length rr (fun k c' e'=>by
        rw[ZrP];exact ZvY hg1 hb1 hl hok hs hks a c' hal (ho k c' e'))
      have k2:∀ i,i≠w->∀ v,H1[i]?=some v->H2[i]?=some v:=fun i hi v hv=>r2.get hv (by simpa using hi);have hsys2:SysAt H2 o t tm s1 A:=p2.stp r2 fun i hi=>by simp;exact fun e'=>hwA (e' ▸ hi)
      have hrd2:∀ y∈ds,RdF H2 o tm s1 A y:=fun y hy=>(hrd1 y hy).frame (r2.at' y.r (hrd1 y hy).lt (by simp;exact fun e'=>hwd (e' ▸ zJ hy)))
      obtain⟨H3,s3,hT3,m2,m3,m4,m5⟩:=ih (d++[x]) (GX (Q1 L p) d.length (a::rr) o') H2 s1 (by rw[hd];simp) hk1 c1 hsys2 hrd2 (fun k c' e'=>by
        unfold GX at e';rcases o' with _|⟨j,c2⟩
        · injection e' with e';injection e' with e1 e2;subst e2;exact hal
        · dsimp only at e'
          split at e'
          · injection e' with e';injection e' with e1 e2;subst e2;exact hal
          · injection e' with e';injection e' with e1 e2;subst e2;exact ho j _ rfl) (k2 g hgw _ hg1) (k2 b hbw _ hb1) r3
      have hstep:Yl (.ptr b 0) (.ptr w 0) (.fn (.func 128) [] [.ptr b 0]) (J xO 0) rx (J xO (ds.length:Int)) (J xO (d.length:Int)) H0 H=Yl (.ptr b 0) (.ptr w 0) (.fn (.func 128) [] [.ptr b 0]) (J xO 0) rx (J xO (ds.length:Int)) (J xO ((d++[x]).length:Int)) H0 H2:=by
        rw[V1,zO,zS];simp only[go_sem,hlt,Qe,hidx,Zz,p1,zA,zB,e0,yU,zI,Dd,yQ,r1,Dc,hw1]
      rw[hstep,yM,hr];rw[zO,zS]at m5 ⊢;exact⟨H3,s3,hT.trans hT3,m2,(hS1.trans (r2.mono fun i hi=>by rw[zL.1 hi];simp) (fun _ h=>h) (fun _ h=>.inl h)).trans m3 (fun _ h=>h) (fun _ h=>.inl h),m4,m5⟩
end
section
variable {o t g:Nat}{tm:Tmp}{A:List Nat}{L:Loc}{lx c e:AV}{p:Spec}{xp:AV}{rx:AV}{last:Zm}{has:Bool}{ds:List Rd}
  (hm:TmpOk tm)
  (hl:LocAV (.agg (L.cells lx c e)) L) (hok:LocOk L) (hs:SpecAV (.agg (p.cells xp)) p) (hks:∀ k∈p.keys,KeOk k)
  (hrx:Sl 1 rx (ds.map rdV)) (hnd:(ds.map Rd.r).Nodup) (hlen:ds.length<=1048576)
  (hgA:g∉A) (hgd:g∉ds.map Rd.r)
include hm hl hok hs hks hrx hnd hlen hgA hgd
theorem ZkP {H:Hp}{s:Sto}(hk:StoOk s)(hc:s.crashed=false)(hsys:SysAt H o t tm s A)(hrd:∀ x∈ds,RdF H o tm s A x)(hg:H[g]?=some (.cells (KV L lx c e p xp (ZK p==0) rx last has))) :
    ∃ H' res s',UT [.ptr g 0] H=some (res,H')/\Tk s s'/\SysAt H' o t tm s' A/\Stp (ds.map Rd.r++A) H H' /\
      (s'.crashed=true/\res=.tuple [.str [],.bool false,J xO 19]\/s'.crashed=false /\
        (Tn (Q1 L p) (ds.map Rd.rest) 0 none=none/\res=.tuple [.str [],.bool false,J xO 0]/\(∀ x∈ds,RdF H' o tm s' A x) \/
        ∃ P x Q a r,ds=P++x::Q/\x.rest=a::r/\Tn (Q1 L p) (ds.map Rd.rest) 0 none=some (P.length,a)/\res=.tuple [.str a,.bool true,J xO 0]/\∀ y∈P++{ x with rest:=r }::Q,RdF H' o tm s' A y)):=by
  have hgl:=Zg hg
  have hdl:∀ x∈ds.map Rd.r,x<H.length:=fun x hx=>by
    obtain⟨y,hy,rfl⟩:=xC.1 hx;exact (hrd y hy).lt
  have hbox:ZQ (.ptr g 0) H=some (.ptr H.length 0,H++[.cells [.ptr g 0]]):=Rt rfl;have hl2:(H++[zD [yT g 0]]).length=H.length+1:=by simp
  have gb:((H++[zD [yT g 0]])++[zD (Gu none)])[H.length]?=some (.cells [.ptr g 0]):=by simp
  have gw:((H++[zD [yT g 0]])++[zD (Gu none)])[H.length+1]?=some (.cells (Gu none)):=by
    rw[zW (by simp)];simp
  have hS0:Stp [] H ((H++[zD [yT g 0]])++[zD (Gu none)]):=by rw[yB];exact Stp.push _ _
  have hg0:=hS0.get hg (by simp);have hsys0:=hsys.stp hS0 (by simp);have hrd0:∀ x∈ds,RdF ((H++[zD [yT g 0]])++[zD (Gu none)]) o tm s A x:=fun x hx=>(hrd x hx).frame (hS0.at' _ (hrd x hx).lt (by simp));have nA:∀ i,H.length<=i->i∉A:=fun i hi h=>by have:=hsys.lt i h;omega
  have nD:∀ i,H.length<=i->i∉ds.map Rd.r:=fun i hi h=>by have:=hdl i h;omega
  obtain⟨H1,s1,hT,p2,p3,p4,p6⟩:=Zrs (b:=H.length) (w:=H.length+1) hm hl hok hs hks hrx hnd hlen hgA (nA _ (zK _)) (nA _ (by omega)) hgd (nD _ (zK _)) (nD _ (by omega)) (by omega) (by omega) H ds [] none _ s rfl hk hc hsys0 hrd0 (fun _ _ h=>by cases h) hg0 gb gw
  have hg1:=p3.get hg0 (fun h=>by
    rcases zG.1 h with e'|h
    · omega
    · rcases zE.1 h with h|h
      · exact hgd h
      · exact hgA h)
  have hb1:=p3.get gb (fun h=>by
    rcases zG.1 h with e'|h
    · omega
    · rcases zE.1 h with h|h
      · exact nD _ (zK _) h
      · exact nA _ (zK _) h)
  have hS1:Stp (ds.map Rd.r++A) H H1:=⟨zQ hS0.len p3.len,fun a ha hn=>(p3.at' a (xE ha hS0.len) (fun h=>by
    rcases zG.1 h with e'|h
    · omega
    · exact hn h)).trans (hS0.at' a ha (by simp))⟩
  have l0:=ZN gb 0 (v:=.ptr g 0) rfl;have l12:=ZN hg0 12 (v:=rx) rfl;have hln:=Sl.len hrx 130;rw[zN]at hln;have lb:=ZN hb1 0 (v:=.ptr g 0) rfl;have l12':=ZN hg1 12 (v:=rx) rfl;have e0:((0:Int) != 0)=false:=rfl;have e19:((19:Int) != 0)=true:=rfl;have hbc:Gu none=[.str [],J xO 0,.bool false]:=rfl;rw[hbc]at l0 l12 p6
  have hstart:UT [.ptr g 0] H=Yl (.ptr H.length 0) (.ptr (H.length+1) 0) (.fn (.func 128) [] [.ptr H.length 0]) (J xO 0) rx (J xO (ds.length:Int)) (J xO (([]:List Rd).length:Int)) H ((H++[zD [yT g 0]])++[zD [.str [],J xO 0,.bool false]]):=by
    rw[AX];unfold Pb;simp only[hbox,go_sem,hl2,l0,zC,l12,hln];rfl
  rcases p6 with ⟨c1,p1⟩|⟨c1,p1,p5⟩
  · refine⟨H1,_,s1,?_,hT,p2,hS1,.inl ⟨c1,rfl⟩⟩
    rw[hstart,p1,V0];simp only[go_sem,e19]
  rw[p1]at hstart;rw[xJ]at p5
  cases hbest:Tn (Q1 L p) (ds.map Rd.rest) 0 none with
  |none =>
    rw[hbest]at p5;have l2:=ZN p5 2 (v:=.bool false) rfl;refine⟨H1,_,s1,?_,hT,p2,hS1,.inr ⟨c1,.inl ⟨rfl,rfl,p4⟩⟩⟩;rw[hstart,V0];simp only[go_sem,e0,zC,l2,zI]
  |some q =>
    obtain⟨k,a⟩:=q;obtain⟨r,hr⟩:=Zxp (Q1 L p) (ds.map Rd.rest) [] none (fun _ _ h=>by cases h) k a hbest;rw[yR,zX]at hr
    obtain⟨x,hx,hxr⟩:∃ x,ds[k]?=some x/\x.rest=a::r:=by
      cases hk':ds[k]? with
      |none=>rw[hk']at hr;cases hr
      |some x=>rw[hk']at hr;injection hr with hr;exact⟨x,rfl,hr⟩
    have hkl:=Zg hx
    have hsplit:ds=ds.take k++x::ds.drop (k+1):=by
      have h1:=zY hkl;rw[hx]at h1;injection h1 with h1;rw[h1,<-yV hkl,yN]
    have hkt:(ds.take k).length=k:=by rw[xH];omega
    rw[hbest]at p5;have l2:=ZN p5 2 (v:=.bool true) rfl;have l1:=ZN p5 1 (v:=J xO (k:Int)) rfl;have hxm:x∈ds:=zV hx;have hin:(ds.map rdV)[k]?=some (rdV x):=by rw[zX,hx];rfl
    have hidx:Zo 1 rx (J xO (k:Int))=some (.vp [.ptr x.r 0]):=Sl.idx hrx hin;obtain⟨H2,s2,hT2,n2,n3,n4⟩:=ZrH p2 hm (hT.sto hk) c1 (p4 x hxm)
    have hSn:Stp (ds.map Rd.r++A) H H2:=hS1.trans (n3.mono (B:=ds.map Rd.r++A) fun i hi=>by
      rcases zG.1 hi with e'|hi
      · subst e';exact zE.2 (.inl (zJ hxm))
      · exact zE.2 (.inr hi)) (fun _ h=>h) (fun _ h=>.inl h)
    rcases n4 with ⟨c2,n1,_⟩|⟨c2,n1,n4⟩
    · refine⟨H2,_,s2,?_,hT.trans hT2,n2,hSn,.inl ⟨c2,rfl⟩⟩
      rw[hstart,V0];simp only[go_sem,e0,zC,l2,zP,Db,lb,l12',l1,hidx,Zz,n1,zA,zB,e19]
    rw[hxr]at n1 n4;refine⟨H2,_,s2,?_,hT.trans hT2,n2,hSn,.inr ⟨c2,.inr ⟨ds.take k,x,ds.drop (k+1),a,r,hsplit,hxr,by rw[hkt],rfl,fun y hy=>?_⟩⟩⟩
    · rw[hstart,V0]
      simp only[go_sem,e0,zC,l2,zP,Db,lb,l12',l1,hidx,Zz,n1,zA,zB,Hv,yQ]
    · have hother:∀ z∈ds,z.r≠x.r->RdF H2 o tm s2 A z:=fun z hz hne=>((p4 z hz).tk hT2).frame (n3.at' z.r (p4 z hz).lt fun h=>by
        rcases zG.1 h with e'|h
        · exact hne e'
        · exact (p4 z hz).out h)
      rw[hsplit,zT,yM,yC,zU]at hnd;obtain⟨_,⟨d1,_⟩,d2⟩:=hnd;rcases zE.1 hy with hy|hy
      · exact hother y (xD hy) (d2 y.r (zJ hy) x.r (by simp))
      · rcases zG.1 hy with e'|hy
        · subst e';exact n4
        · exact hother y (yP hy) fun e'=>d1 (by rw[<-e'];exact zJ hy)
end
section
variable {o t g:Nat}{tm:Tmp}{A:List Nat}{L:Loc}{lx c e:AV}{p:Spec}{xp:AV}{rx:AV}{last:Zm}{has:Bool}{rs:List Nat}
 (hm:TmpOk tm)
 (hl:LocAV (.agg (L.cells lx c e)) L) (hok:LocOk L) (hs:SpecAV (.agg (p.cells xp)) p) (hks:∀ k∈p.keys,KeOk k)
 (hrx:Sl 1 rx (rs.map fun r=>yT r 0)) (hnd:rs.Nodup) (hlen:rs.length<=1048576)
 (hgA:g∉A) (hgd:g∉rs) (hlast:last.length<=1048576)
include hm hl hok hs hks hrx hnd hlen hgA hgd hlast
theorem ZoE (U:Hp):∀ (n:Nat) (ds:List Rd) (H:Hp) (s:Sto),Y4 ds<=n->ds.map Rd.r=rs->StoOk s->s.crashed=false->SysAt H o t tm s A->(∀ x∈ds,RdF H o tm s A x)->H[g]?=some (.cells (KV L lx c e p xp (ZK p==0) rx last has)) ->
 ∃ H' s',Tk s s'/\SysAt H' o t tm s' A/\Stp (g::rs++A) H H'/\(s'.crashed=true/\Yw (.ptr g 0) U H=some (.tuple [.str [],.bool false,J xO 19],H')\/s'.crashed=false /\
  ∃ z D,Yw (.ptr g 0) U H=some (.tuple [.str (z.getD []),.bool z.isSome,J xO 0],H')/\NextD (Q1 L p) (Ku L p last has) ds z D/\D.map Rd.r=rs/\(∀ x∈D,RdF H' o tm s' A x) /\
  H'[g]?=some (.cells (match z with|none=>KV L lx c e p xp (ZK p==0) rx last has|some a=>KV L lx c e p xp (ZK p==0) rx a true))):=by
 intro n
 induction n with
 |zero =>
  intro ds H s hn u hk hc F R hg;have E:Sl 1 rx (ds.map rdV):=by rw[<-u,xL]at hrx;exact hrx
  obtain⟨H1,res,s1,Z,S,p2,T,p4⟩:=ZkP hm hl hok hs hks E (by rw[u];exact hnd) (by rw[<-u,zN]at hlen;exact hlen) hgA (by rw[u];exact hgd) hk hc F R hg;rw[u]at T;have O:Stp (g::rs++A) H H1:=T.mono fun i hi=>by simp at hi ⊢;exact .inr hi
  rcases p4 with ⟨K,rfl⟩|⟨K,p4⟩
  ·refine⟨H1,s1,S,p2,O,.inl ⟨K,?_⟩⟩;rw[YZ];simp only[Z,go_sem,zA,zB,zI]
  rcases p4 with ⟨q1,rfl,q3⟩|⟨P,x,Q,a,r,rfl,q2,_⟩
  ·refine⟨H1,s1,S,p2,O,.inr ⟨K,none,ds,?_,.done q1,u,q3,T.get hg fun h=>(zE.1 h).elim hgd hgA⟩⟩;rw[YZ];simp only[Z,go_sem,zA,zB,zI];rfl
  ·rw[Vv,Y4,q2,yL]at hn;omega
 |succ n ih =>
  intro ds H s hn u hk hc F R hg;have E:Sl 1 rx (ds.map rdV):=by rw[<-u,xL]at hrx;exact hrx
  obtain⟨H1,res,s1,Z,S,p2,T,p4⟩:=ZkP hm hl hok hs hks E (by rw[u];exact hnd) (by rw[<-u,zN]at hlen;exact hlen) hgA (by rw[u];exact hgd) hk hc F R hg;rw[u]at T;have O:Stp (g::rs++A) H H1:=T.mono fun i hi=>by simp at hi ⊢;exact .inr hi
  rcases p4 with ⟨K,rfl⟩|⟨K,p4⟩
  ·refine⟨H1,s1,S,p2,O,.inl ⟨K,?_⟩⟩;rw[YZ];simp only[Z,go_sem,zA,zB,zI]
  have j:=T.get hg fun h=>(zE.1 h).elim hgd hgA;have V:Stp (g::rs++A) H H1:=T.mono fun i hi=>by simp at hi ⊢;exact .inr hi
  rcases p4 with ⟨q1,rfl,q3⟩|⟨P,x,Q,a,r,rfl,q2,q3,rfl,q5⟩
  ·refine⟨H1,s1,S,p2,V,.inr ⟨K,none,ds,?_,.done q1,u,q3,j⟩⟩;rw[YZ];simp only[Z,go_sem,zA,zB,zI];rfl
  ·have ai:a.length<=1048576:=by
    have:=(R x (by simp)).fit;rw[q2]at this;simp only[YU,yW,xA,decide_eq_true_eq]at this;omega
   have X:(P++{ x with rest:=r }::Q).map Rd.r=rs:=by rw[<-u];simp
   have I:=ZN j 14 (v:=.bool has) rfl;have C:=ZN j 11 (v:=.bool (ZK p==0)) rfl;have l9:=ZN j 9 (v:=.bool p.uniq) rfl;have ad:=ZN j 13 (v:=.str last) rfl;have ac:=Zeh hl hok hs hks last a hlast ai H1
   have M:Kk (.ptr g 0) (.str a) U H1=if Ku L p last has a then Yw (.ptr g 0) U H1 else Km (.ptr g 0) (.str a) U H1:=by
    rw[Ht];unfold Ku
    cases has with
    |false=>simp only[go_sem,zC,yK,I,yD,yJ,if_false]
    |true =>
     cases ab:ZK p==0 with
     |false =>
      rw[ab]at C;simp only[go_sem,zC,yK,I,C,zZ,yD,yJ,if_false]
     |true =>
      rw[ab]at C
      cases hu:p.uniq with
      |false =>
       rw[hu]at l9;simp only[go_sem,zC,yK,yH,I,C,l9,zZ,yD,yJ,if_false]
      |true =>
       rw[hu]at l9
       cases he:Wp L p last a==0 with
       |true=>simp only[go_sem,zC,yK,yH,I,C,l9,ad,ZmV j,ZjL j,ac,he,zZ,if_true]
       |false=>simp only[go_sem,zC,yK,yH,I,C,l9,ad,ZmV j,ZjL j,ac,he,zZ,yJ,if_false]
   cases hsm:Ku L p last has a with
   |true =>
    rw[hsm,if_pos rfl]at M
    obtain⟨H2,s2,ah,m3,m4,m8⟩:=ih (P++{ x with rest:=r }::Q) H1 s1 (by
     rw[Vv,Y4,q2,yL]at hn;rw[Vv,Y4];show Y4 P+(r.length+Y4 Q)<=n;omega) X (S.sto hk) K p2 q5 j
    have Y:Yw (.ptr g 0) U H=Yw (.ptr g 0) U H1:=by
     rw[YZ];simp only[Z,go_sem,zA,zB,zP,M]
    rw[Y];refine⟨H2,s2,S.trans ah,m3,V.trans m4 (fun _ h=>h) (fun _ h=>.inl h),m8.imp id fun⟨c2,z,D,m1,m2,m5,m6,m7⟩=>⟨c2,z,D,m1,.skip q2 q3 hsm m2,m5,m6,m7⟩⟩
   |false =>
    rw[hsm,if_neg (by simp)]at M;have ae:=V9 j 14 (v:=.bool true) rfl rfl (by simp[KV,Loc.cells,Spec.cells]);have g2:=Zq (zD (zM (KV L lx c e p xp (ZK p==0) rx last has) 14 (.bool true))) j;have aa:=V9 g2 13 (v:=.str a) rfl rfl (by simp[KV,Loc.cells,Spec.cells]);have g3:=Zq (zD (zM (zM (KV L lx c e p xp (ZK p==0) rx last has) 14 (.bool true)) 13 (.str a))) g2;generalize af:H1.set g (.cells (zM (KV L lx c e p xp (ZK p==0) rx last has) 14 (.bool true)))=H2 at ae g2 aa g3;generalize ag:H2.set g (.cells (zM (zM (KV L lx c e p xp (ZK p==0) rx last has) 14 (.bool true)) 13 (.str a)))=H3 at aa g3
    have W:Stp [g] H1 H3:=by
     rw[<-ag,<-af];exact (Stp.set _ _ (by simp)).trans (Stp.set _ _ (by simp)) (fun _ h=>h) fun _ h=>.inl h
    refine⟨H3,s1,S,p2.stp W (fun i hi=>by simp;exact fun e'=>hgA (e' ▸ hi)),V.trans (W.mono (B:=g::rs++A) fun i hi=>by rw[zL.1 hi];simp) (fun _ h=>h) (fun _ h=>.inl h),.inr ⟨K,some a,_,?_,.give q2 q3 hsm,X,fun y hy=>(q5 y hy).frame (W.at' y.r (q5 y hy).lt (by
     have:y.r∈rs:=by rw[<-X];exact zJ hy
     simp;exact fun e'=>hgd (e' ▸ this))),g3⟩⟩
    rw[YZ];simp only[Z,go_sem,zA,zB,zP,M,Hu,zC,ae,aa];rfl
end
section
variable {o t g:Nat}{tm:Tmp}{A:List Nat}{L:Loc}{lx c e:AV}{p:Spec}{xp:AV}{rx:AV}{last:Zm}{has:Bool}{rs:List Nat}
 (hm:TmpOk tm)
 (hl:LocAV (.agg (L.cells lx c e)) L) (hok:LocOk L) (hs:SpecAV (.agg (p.cells xp)) p) (hks:∀ k∈p.keys,KeOk k)
 (hrx:Sl 1 rx (rs.map fun r=>yT r 0)) (hnd:rs.Nodup) (hlen:rs.length<=1048576)
 (hgA:g∉A) (hgd:g∉rs) (hlast:last.length<=1048576)
include hm hl hok hs hks hrx hnd hlen hgA hgd hlast
theorem LY {ds:List Rd}{H:Hp}{s:Sto}(F:ds.map Rd.r=rs)(hk:StoOk s)(hc:s.crashed=false)(y:SysAt H o t tm s A)(C:∀ x∈ds,RdF H o tm s A x)(E:H[g]?=some (.cells (KV L lx c e p xp (ZK p==0) rx last has))) :
 ∃ H' s',Tk s s'/\SysAt H' o t tm s' A/\Stp (g::rs++A) H H'/\(s'.crashed=true/\XR [.ptr g 0] H=some (.tuple [.str [],.bool false,J xO 19],H')\/s'.crashed=false /\
  ∃ z j,XR [.ptr g 0] H=some (.tuple [.str (z.getD []),.bool z.isSome,J xO 0],H')/\NextD (Q1 L p) (Ku L p last has) ds z j/\j.map Rd.r=rs/\(∀ x∈j,RdF H' o tm s' A x) /\
  H'[g]?=some (.cells (match z with|none=>KV L lx c e p xp (ZK p==0) rx last has|some a=>KV L lx c e p xp (ZK p==0) rx a true))):=by
 have u:Yr (.pointer 153) .eql (.ptr g 0) .nilp=some (.bool false):=rfl
 have D:XR [.ptr g 0] H=Yw (.ptr g 0) H H:=by
  rw[AW];unfold Pa;simp only[u,go_sem,Hs]
 rw[D];exact ZoE hm hl hok hs hks hrx hnd hlen hgA hgd hlast H (Y4 ds) ds H s (zK _) F hk hc y C E
end
section
variable {o t g:Nat}{B:List Fil}(hB:BOk B){lim:Nat}{tm:Tmp}{s:Sto}{P:List Pr}{k:Nat}{tm1:Tmp}{L:Loc}{lx c e:AV}{p:Spec}{xp:AV}{rx:AV}{rs:List Nat}
  (hl:LocAV (.agg (L.cells lx c e)) L) (hok:LocOk L) (hs:SpecAV (.agg (p.cells xp)) p) (hks:∀ k∈p.keys,KeOk k)
  (hrx:Sl 1 rx (rs.map fun r=>yT r 0)) (hnd:rs.Nodup) (hlen:rs.length<=1048576) (hgd:g∉rs)
include hB hl hok hs hks hrx hnd hlen hgd
theorem ZmU (H0:Hp):∀ (m:Nat) (ds:List Rd) (last:Zm) (has:Bool) (acc:List Zl) (s1:Sto) (A:List Nat) (H:Hp),Y4 ds<=m->ZG P+Yc acc+Qx ds<=100000->last.length<=1048576->ds.map Rd.r=rs->ZJ (k+1)∉ds.map Rd.n ->
    MG B lim tm s P k tm1 s1 (ZX acc)->SysAt H o t tm1 s1 A->(∀ x∈ds,RdF H o tm1 s1 A x)->H[g]?=some (.cells (KV L lx c e p xp (ZK p==0) rx last has))->g∉A ->
    ∃ H' A' s',SysAt H' o t tm1 s' A'/\Stp (g::rs++A) H H'/\(∀ a∈A',a∈A\/H.length<=a) /\
      ((∃ out ds',Wl (.ptr o 0) (.str (ZJ (k+1))) (.ptr g 0) H0 H=Nr (.ptr o 0) (.str (ZJ (k+1))) H0 H'/\AllD L p last has ds out ds'/\MG B lim tm s P k tm1 s' (ZX (acc++out))) \/
       ∃ er,Wl (.ptr o 0) (.str (ZJ (k+1))) (.ptr g 0) H0 H=some (.tuple [.str [],J xO er],H')/\Bad B lim tm1 s' er):=by
  have e0:((0:Int) != 0)=false:=rfl;have e19:((19:Int) != 0)=true:=rfl;intro m
  induction m with
  |zero =>
    intro ds last has acc s1 A H ht hco hlast hr hnn hM hsys hrd hg hgA;obtain⟨H1,s2,hT,p3,p4,q⟩:=LY hM.tmOk hl hok hs hks hrx hnd hlen hgA hgd hlast hr (hM.sto hB) hM.crashed hsys hrd hg;rcases q with ⟨c1,p1⟩|⟨c1,z,ds1,p1,p2,p5,p6,p7⟩
    · refine⟨H1,A,s2,p3,p4,fun a ha=>.inl ha,.inr ⟨19,?_,hM.bad hB hT c1⟩⟩
      rw[WR];simp only[p1,go_sem,zA,zB,e19]
    · cases z with
      |some a=>have:=p2.less.2 a rfl;omega
      |none =>
        refine⟨H1,A,s2,p3,p4,fun a ha=>.inl ha,.inl ⟨[],ds1,?_,.done p2,by rw[zR];exact hM.tk hT c1⟩⟩;rw[WR];simp only[p1,go_sem,zA,zB,e0,Jm,yA,yI,zI]
  |succ m ih =>
    intro ds last has acc s1 A H ht hco hlast hr hnn hM hsys hrd hg hgA;obtain⟨H1,s2,hT,p3,p4,q⟩:=LY hM.tmOk hl hok hs hks hrx hnd hlen hgA hgd hlast hr (hM.sto hB) hM.crashed hsys hrd hg;rcases q with ⟨c1,p1⟩|⟨c1,z,ds1,p1,p2,p5,p6,p7⟩
    · refine⟨H1,A,s2,p3,p4,fun a ha=>.inl ha,.inr ⟨19,?_,hM.bad hB hT c1⟩⟩
      rw[WR];simp only[p1,go_sem,zA,zB,e19]
    have hM1:=hM.tk hT c1
    cases z with
    |none =>
      refine⟨H1,A,s2,p3,p4,fun a ha=>.inl ha,.inl ⟨[],ds1,?_,.done p2,by rw[zR];exact hM1⟩⟩;rw[WR];simp only[p1,go_sem,zA,zB,e0,Jm,yA,yI,zI]
    |some a =>
      have hal:a.length<=4096:=by
        obtain⟨x,hx,ha⟩:=p2.mem a rfl;have:=xB.1 (hrd x hx).fit a ha;simpa using this
      have hcost:=p2.cost.2 a rfl;have hca:Yc [a]=a.length+6:=rfl;have hac:(ZX acc).length=Yc acc:=QU acc;obtain⟨H2,A2,w1,w2⟩:=Zk2 p3 hM1.tmOk (hM1.sto hB) (ZJ (k+1)) (ZiD a) (fun s hs=>by rw[zL.1 hs];omega) (by rw[hca];omega);have hl1:=p4.len;have hl2:=w2.stp.len;have hAlt:=p3.lt;have b2:Stp (g::rs++A) H H2:=p4.trans w2.stp (fun _ h=>h) fun b hb=>.inl (zH _ hb);have hown:∀ b∈A2,b∈A\/H.length<=b:=fun b hb=>(w2.own b hb).imp id fun h=>by omega
      rcases hM1.write hB (l:=[a]) (by simp[YU];omega) (by rw[hac,hca];omega) with ⟨s3,hW,hM2⟩|⟨er,s3,hW,hb⟩
      rotate_left
      · rw[hW]at w1 w2
        have he:=hb.ne;refine⟨H2,A2,s3,w2.at',b2,hown,.inr ⟨er,?_,hb⟩⟩;rw[WR];simp only[p1,go_sem,zA,zB,e0,he,Jm,yA,yI,zP,LK,Rz,w1]
      rw[hW]at w1 w2;rw[<-Zmo]at hM2
      have hout:∀ {b:Nat},b<H1.length->b∉A->b∉A2:=fun hb hn h1=>by
        rcases w2.own _ h1 with k|k
        · exact hn k
        · omega
      have hg2:=w2.stp.get p7 hgA
      have hrd2:∀ x∈ds1,RdF H2 o tm1 s3 A2 x:=fun x hx=>by
        have h6:=p6 x hx;have hxn:x.n≠ZJ (k+1):=fun e'=>hnn (by rw[<-p2.names,<-e'];exact zJ hx);obtain⟨f,f2,f3⟩:=h6.file;refine⟨h6.rdr.frame (w2.stp.at' x.r h6.lt h6.out),hout h6.lt h6.out,h6.fit,h6.len,h6.fnd,f,?_,f3⟩;rw[hM1.files,ZjE rfl hxn]at f2;rw[hM2.files,ZjE rfl hxn];exact f2
      obtain⟨H3,A3,s4,m2,m6,m7,m1⟩:=ih ds1 a true (acc++[a]) s3 A2 H2 (by have:=p2.less.2 a rfl;omega) (by rw[HZ];omega) (by omega) p5 (by rw[p2.names];exact hnn) hM2 w2.at' hrd2 hg2 (hout (Zg p7) hgA)
      have hstep:Wl (.ptr o 0) (.str (ZJ (k+1))) (.ptr g 0) H0 H=Wl (.ptr o 0) (.str (ZJ (k+1))) (.ptr g 0) H0 H2:=by
        rw[WR];simp only[p1,go_sem,zA,zB,e0,Jm,yA,yI,zP,LK,Rz,w1]
      rw[hstep];refine⟨H3,A3,s4,m2,b2.trans m6 (fun _ h=>h) fun b hb=>?_,fun b hb=>?_,m1.imp (fun⟨out,ds3,n1,n2,n3⟩=>⟨a::out,ds3,n1,.more p2 n2,by rw[show acc++a::out=acc++[a]++out by simp];exact n3⟩) id⟩
      · rcases zE.1 hb with h|h
        · exact .inl (zF _ h)
        · exact (hown b h).imp (fun h=>zH _ h) id
      · rcases m7 b hb with h|h
        · exact hown b h
        · exact .inr (by omega)
end
section
variable {o t:Nat}{A:List Nat}{a q:AV}{L:Loc}{p:Spec}(ha:LocAV a L)(hok:LocOk L)(hsm:LocSm L)(hq:SpecAV q p)(hks:∀ k∈p.keys,KeOk k)(hkl:p.keys.length<=1048576)
  {B:List Fil} (hB:BOk B) {lim:Nat} {tm:Tmp} {s:Sto} {P:List Pr} {k:Nat} (hX:XG B lim tm s P k) (hk:k<126) (hmn:P.length<42)
  {xn:AV} {G:List Pr} (hG:∀ x∈G,x∈P) (hG5:G.length<=64) (hx:SS xn (G.map (·.1))) (hcG:ZG P+ZG G<=100000)
include ha hok hsm hq hks hkl hB hX hk hmn hG hG5 hx hcG
theorem ZoY {H:Hp}(h:SysAt H o t tm s A):∃ H' A' tm' s',SysAt H' o t tm' s' A'/\Stp A H H'/\(∀ b∈A',b∈A\/H.length<=b) /\
    (Qh [.ptr o 0,a,q,xn] H=some (.tuple [.str (ZJ (k+1)),J xO 0],H')/\XG B lim tm' s' (P++[(ZJ (k+1),QI L p (G.map (·.2)))]) (k+1) \/
     ∃ er,Qh [.ptr o 0,a,q,xn] H=some (.tuple [.str [],J xO er],H')/\Bad B lim tm' s' er):=by
  have hav:=ha;have hqv:=hq;obtain⟨lx,c,e,rfl,hlx,hlc,hle⟩:=ha;obtain⟨xp,rfl,hxp⟩:=hq;have hub:=hB.used;have hus:Zr (B++YG P)=Zr B+ZG P:=by rw[XQ,JM]
  have hAlt:=h.lt;have hnil:Yr (.pointer 124) .eql (.ptr o 0) .nilp=some (.bool false):=rfl;have g1:(H++[zD (L.cells lx c e),.cells (p.cells xp)])[H.length]?=some (.cells (L.cells lx c e)):=by simp
  have g2:(H++[zD (L.cells lx c e),.cells (p.cells xp)])[H.length+1]?=some (.cells (p.cells xp)):=by simp
  have hS0:Stp A H (H++[zD (L.cells lx c e),.cells (p.cells xp)]):=Stp.push _ _;have hlen0:(H++[zD (L.cells lx c e),.cells (p.cells xp)]).length=H.length+2:=by simp
  have hsys0:SysAt (H++[zD (L.cells lx c e),.cells (p.cells xp)]) o t tm s A:=h.stp (C:=[]) (Stp.push _ _) (fun a ha=>by simp);have hbx:ZQ (.agg (p.cells xp)) (H++[zD (L.cells lx c e)])=some (.ptr (H.length+1) 0,H++[zD (L.cells lx c e),.cells (p.cells xp)]):=by rw[Yu];simp
  generalize hH0:H++[zD (L.cells lx c e),.cells (p.cells xp)]=H0 at g1 g2 hS0 hsys0 hbx hlen0;have e0:((0:Int) != 0)=false:=rfl;have e19:((19:Int) != 0)=true:=rfl
  have hstart:Qh [.ptr o 0,.agg (L.cells lx c e),.agg (p.cells xp),xn] H=Np (.ptr o 0) xn (.ptr H.length 0) (.ptr (H.length+1) 0) H H0:=by
    rw[Zgn];unfold Zbv;simp only[Yu,go_sem,hbx,hnil]
  obtain⟨H1,A1,p1,p2⟩:=ZlH hsys0 hX.x.tmOk (hX.sto hB) (show tm.last<1000000 by rw[hX.x.tmE.2.2.2.1];omega);have hl1:=p2.stp.len;have hS1:Stp A H H1:=hS0.trans p2.stp (fun _ h=>h) fun b hb=>.inl hb;have hS1l:=hS1.len;have hA1o:∀ b∈A1,b∈A\/H.length<=b:=fun b hb=>(p2.own b hb).imp id fun h=>by omega
  rcases hX.new hB hk hmn with ⟨tm1,s1,hN,hM⟩|⟨s1,hN,hb⟩
  rotate_left
  · rw[hN]at p1 p2
    refine⟨H1,A1,tm,s1,p2.at',hS1,hA1o,.inr ⟨19,?_,hb⟩⟩;rw[hstart];simp only[go_sem,LI,p1,zA,zB,e19]
  rw[hN]at p1 p2;have hnA:∀ i,H.length<=i->i∉A:=fun i hi ha=>by have:=hAlt i ha;omega
  have g1':=p2.stp.get g1 (hnA _ (zK _));have g2':=p2.stp.get g2 (hnA _ (by omega));have hGl:(G.map (·.1)).length=G.length:=zN ..;obtain⟨H2,rx,rs,r1,r2,r3,r4,r5,r6,r7,r8,r9⟩:=ZjK hx (by rw[hGl];omega) o H1.length (.ptr H.length 0) (.ptr (H.length+1) 0) (.str (ZJ (k+1))) H (G.map (·.1)) [] .nils [] H1 rfl rfl (RowN.nil _ _ _) (zK _);have hrl:rs.length=G.length:=by rw[r3,zN]
  have g1'':=r5 _ _ g1';have g2'':=r5 _ _ g2';obtain⟨H3,g,lx',c',e',xp',rx',n1,n2,n3,n4,n5,n6,n7⟩:=ZlD hav hsm hqv hkl (rx:=rx) (rs:=rs) (by simpa using r2.sl) (by omega) H2;have hA1lt:=p2.at'.lt;have hl23:=n6.len;have hgH:=Zg n2
  have hrlt:∀ r∈rs,r<H2.length:=fun r hr=>by
    obtain⟨i,hi⟩:=yG hr;have hil:=(yX.1 hi).1;obtain⟨rr,k1,k2⟩:=r6 i (G.map (·.1))[i] (zY (by omega));rw[hi]at k1;injection k1 with k1;subst k1;exact Zg k2
  have hsys3:=p2.at'.frame (H':=H3) fun b hb=>(n6.at' b (by have:=hA1lt b hb;omega) (by simp)).trans (r4 b (hA1lt b hb));obtain⟨d1,d2⟩:=ZtP rs (G.map (·.1)) (G.map (·.2)) r3 (by simp)
  have hfs:∀ (i:Nat) (n:Zm) (l:List Zl),(G.map (·.1))[i]?=some n->(G.map (·.2))[i]?=some l->YU l=true/\(ZX l).length<=262144/\YI tm1 n=0/\(∃ f,ZP s1.files n=some f/\f.text=ZX l)/\n≠ZJ (k+1):=fun i n l hn hl=>by
    rw[zX]at hn hl
    cases hgi:G[i]? with
    |none=>rw[hgi]at hn;cases hn
    |some x =>
      rw[hgi]at hn hl;cases hn;cases hl;have hxP:=hG x (zV hgi);have hc:=Zka hxP;have hPc:=hX.x.cost;have hne:x.1≠ZJ (k+1):=fun e=>hX.x.fresh (by rw[<-e];exact zJ hxP);refine⟨hX.x.fit x hxP,by rw[QU];exact zQ hc (by omega),?_,⟨⟨x.1,ZX x.2,(ZX x.2).length⟩,?_,rfl⟩,hne⟩
      · unfold YI
        rw[hM.tmE,if_neg (by simp[hX.x.tmE.2.2.2.2]),if_pos (zF _ (by rw[hX.x.tmE.2.1];exact zJ hxP))]
      · have:=hX.x.get hB hxP
        rw[hX.x.stE.2.2.1]at this;rw[hM.files];exact (ZjE rfl hne).trans this
  have hrd:∀ d∈R1 rs (G.map (·.1)) (G.map (·.2)),RdF H3 o tm1 s1 A1 d:=fun d hd=>by
    obtain⟨i,r,n,l,e1,e2,e3,rfl⟩:=Zh4 _ _ _ d hd;obtain⟨rr,k1,k2⟩:=r6 i n e2;rw[yR]at *;rw[e1]at k1;injection k1 with k1;subst k1;obtain⟨f1,f2,f3,f4,_⟩:=hfs i n l e2 e3;refine⟨.inr (.inr ⟨[],?_,rfl⟩),fun hA=>?_,f1,f2,f3,f4⟩
    · exact (n6.at' r (Zg k2) (by simp)).trans k2
    · have:=hA1lt r hA
      have:=r8 r (zV e1);omega
  have hnn:ZJ (k+1)∉(R1 rs (G.map (·.1)) (G.map (·.2))).map Rd.n:=fun hh=>by
    obtain⟨d,hd,he⟩:=xC.1 hh;obtain⟨i,r,n,l,e1,e2,e3,rfl⟩:=Zh4 _ _ _ d hd;exact (hfs i n l e2 e3).2.2.2.2 he
  have hgA:g∉A1:=fun hA=>by have:=hA1lt g hA;omega
  have hgr:g∉rs:=fun hr=>by have:=hrlt g hr;omega
  obtain⟨H4,A4,s4,m3,m6,m7,mm⟩:=ZmU (o:=o) (t:=t) (g:=g) (rs:=rs) hB n3 hok n4 hks n5 r7 (by omega) hgr H
    (WL (G.map (·.2))) (R1 rs (G.map (·.1)) (G.map (·.2))) [] false [] s1 A1 H3 (by rw[<-EL,d2];exact zK _) (by rw[ZhX,d2,ZhY];simp only[Yc];omega) (by simp) d1 hnn hM hsys3 hrd n2 hgA
  have hS3:Stp A H H3:=⟨by have:=hS1.len;omega,fun i hi hn=>(n6.at' i (by have:=hS1.len;omega) (by simp)).trans ((r4 i (by have:=hS1.len;omega)).trans (hS1.at' i hi hn))⟩
  have hS4:Stp A H H4:=hS3.trans m6 (fun _ h=>h) fun b hb=>by
    rcases zE.1 hb with h|h
    · rcases zG.1 h with h|h
      · exact .inr (by omega)
      · have:=r8 b h;exact .inr (by omega)
    · exact hA1o b h
  have hA4o:∀ b∈A4,b∈A\/H.length<=b:=fun b hb=>by
    rcases m7 b hb with h|h
    · exact hA1o b h
    · exact .inr (by omega)
  have hal:=SS.len hx 9
  have hmid:Qh [.ptr o 0,.agg (L.cells lx c e),.agg (p.cells xp),xn] H=Wl (.ptr o 0) (.str (ZJ (k+1))) (.ptr g 0) H H3:=by
    rw[hstart];simp only[go_sem,LI,p1,zA,zB,e0,Zfv,hal];refine r1.trans ?_;rw[Zfw];simp only[Mk g1'',QE g2'',n1,go_sem]
  rw[hmid];rcases mm with ⟨out,ds',m1,m2,hM4⟩|⟨er,m1,hb⟩
  rotate_left
  · exact⟨H4,A4,tm1,s4,m3,hS4,hA4o,.inr ⟨er,m1,hb⟩⟩
  have hmg:=m2.merge;have hco:=m2.cost;rw[ZhX,d2,ZhY]at hco;rw[d2]at hmg;subst hmg;rw[yR]at hM4;obtain⟨H5,A5,t1,t2⟩:=ZlF m3 hM4.tmOk (hM4.sto hB) (ZJ (k+1));have hS5:Stp A H H5:=hS4.trans t2.stp (fun _ h=>h) hA4o;have hS4l:=hS4.len
  have hA5o:∀ b∈A5,b∈A\/H.length<=b:=fun b hb=>by
    rcases t2.own b hb with h|h
    · exact hA4o b h
    · exact .inr (by omega)
  rw[m1];rcases hM4.seal hB (Zqr fun x hx=>hX.x.fit x (hG x hx)) (by omega) with ⟨tm3,s3,hS,hX3⟩|⟨s3,hS,hb⟩
  · rw[hS]at t1 t2
    refine⟨H5,A5,tm3,s3,t2.at',hS5,hA5o,.inl ⟨?_,hX3⟩⟩;rw[LJ];simp only[t1,go_sem,e0,Zfx]
  · rw[hS]at t1 t2
    refine⟨H5,A5,tm1,s3,t2.at',hS5,hA5o,.inr ⟨19,?_,hb⟩⟩;rw[LJ];simp only[t1,go_sem,e19]
end
section
variable {o g t:Nat}{L:Loc}{lx cl e:AV}{p:Spec}{xp:AV}{B:List Fil}(hB:BOk B){lim:Nat}
include hB
theorem Zwo {xn:AV}{G:List Pr}(hx:SS xn (G.map (·.1)))(hG5:G.length<=64)(hGn:(G.map (·.1)).Nodup)(x6:AV){R:List Pr}(H0:Hp):∀ (r d:List Pr) (P:List Pr) (k:Nat) (st:Stt) (tm:Tmp) (s:Sto) (A S:List Nat) (H:Hp),G=d++r->(∀ x∈r,x∈P) ->
    (ZG P:Int)<=st.k->XG B lim tm s P k->SysAt H o t tm s A->SrAt H g o A L lx cl e p xp R st S ->
    ∃ H' A' tm' s',SysAt H' o t tm' s' A'/\Stp (S++A) H H'/\(∀ a∈A',a∈A\/H.length<=a) /\
      (YB (.ptr g 0) x6 xn (J xO (G.length:Int)) (J xO (d.length:Int)) H0 H=some (.tuple [x6,J xO 0],H')/\XG B lim tm' s' (Of r P) k/\SrAt H' g o A' L lx cl e p xp R st S \/
       ∃ er,YB (.ptr g 0) x6 xn (J xO (G.length:Int)) (J xO (d.length:Int)) H0 H=some (.tuple [.str [],J xO er],H')/\Bad B lim tm' s' er):=by
  intro r
  induction r with
  |nil =>
    intro d P k st tm s A S H hd _ _ hX hsys hS;rw[zR]at hd;subst hd;have hlt:decide ((G.length:Int)<(G.length:Int))=false:=by simp
    refine⟨H,A,tm,s,hsys,Stp.refl _ _,fun a h=>.inl h,.inl ⟨?_,hX,hS⟩⟩;rw[VZ];simp only[go_sem,hlt,MJ]
  |cons y r ih =>
    intro d P k st tm s A S H hd hr hst hX hsys hS;have hlen:G.length=d.length+(r.length+1):=by rw[hd];simp
    have hlt:decide ((d.length:Int)<(G.length:Int))=true:=by rw[decide_eq_true_eq];omega
    have hin:(G.map (·.1))[d.length]?=some y.1:=by rw[hd];simp
    have hidx:=SS.idx hx hin;have hw1:xN.wrap ((d.length:Int)+1)=((d++[y]).length:Int):=by rw[Zp (by omega) (by omega)];simp
    have hyP:=hr y (by simp);have hSo:=hS.off;have hS':=hS;obtain⟨x,g1,g2,g3,g4,g5⟩:=hS;have l0:=ZN g1 0 (v:=.ptr o 0) rfl;obtain⟨H1,A1,tm1,s1,r2,r1⟩:=ZlI hB hX hsys hyP;have b0:Stp (S++A) H H1:=r2.stp.mono fun a ha=>zH _ ha;have e0:((0:Int) != 0)=false:=rfl;have e19:((19:Int) != 0)=true:=rfl;rcases r1 with ⟨r1,hX1⟩|⟨r1,hb⟩
    rotate_left
    · refine⟨H1,A1,tm1,s1,r2.at',b0,r2.own,.inr ⟨19,?_,hb⟩⟩
      rw[VZ];simp only[go_sem,hlt,KO,hidx,Zz,zC,l0,r1,e19]
    have hS1:=hS'.stp r2.stp hSo r2.own;obtain⟨H2,u1,u2,u3,u4⟩:=ZeI hB hX1 r2.at' hS1
    have hcd:(ZG (XM y.1 P):Int)<=st.k:=by
      have:=SE (fun z=>!(z.1==y.1)) P;unfold XM;omega
    have hmx:({ st with k:=max st.k (ZG (XM y.1 P):Int) }:Stt)=st:=by
      cases st;simp only[Stt.mk.injEq,true_and];dsimp only at hcd;omega
    rw[hmx]at u3
    have hnd:y.1∉r.map (·.1):=by
      rw[hd,zT,yM]at hGn;have:=(yC.1 hGn).2.1;exact (zU.1 this).1
    obtain⟨H',A',tm',s',m2,m5,m6,m1⟩:=ih (d++[y]) (XM y.1 P) k st tm1 s1 A1 S H2 (by rw[hd];simp) (fun z hz=>Zsw.2 ⟨hr z (by simp[hz]),fun e=>hnd (e ▸ zJ hz)⟩) hcd hX1 u2 u3;have hl01:=r2.stp.len;have hl12:=u4.len
    have hstep:YB (.ptr g 0) x6 xn (J xO (G.length:Int)) (J xO (d.length:Int)) H0 H=YB (.ptr g 0) x6 xn (J xO (G.length:Int)) (J xO ((d++[y]).length:Int)) H0 H2:=by
      rw[VZ];simp only[go_sem,hlt,KO,hidx,Zz,zC,l0,r1,e0,ML,u1,MK,hw1]
    rw[hstep];have b1:Stp (S++A) H H2:=b0.trans u4 (fun _ h=>h) fun a h=>.inl (zF _ h);refine⟨H',A',tm',s',m2,b1.trans m5 (fun _ h=>h) fun a h=>?_,fun a ha=>?_,m1⟩
    · rcases zE.1 h with h|h
      · exact .inl (zF _ h)
      · exact (r2.own a h).imp (fun h=>zH _ h) id
    · rcases m6 a ha with h|h
      · exact r2.own a h
      · exact .inr (by omega)
variable (hl:LocAV (.agg (L.cells lx cl e)) L)(hok:LocOk L)(hsm:LocSm L)(hs:SpecAV (.agg (p.cells xp)) p)(hks:∀ k∈p.keys,KeOk k)(hkl:p.keys.length<=1048576)
include hl hok hsm hs hks hkl
theorem ZqA {xn:AV}{G:List Pr}(hx:SS xn (G.map (·.1)))(hG0:G≠[])(hG5:G.length<=64)(hGn:(G.map (·.1)).Nodup){R P:List Pr}{k:Nat}{st:Stt}{tm:Tmp}{s:Sto}{A S:List Nat}{H:Hp}
    (hGP:∀ x∈G,x∈P) (hk:k<126) (hm:P.length<42) (hc:ZG P+ZG G<=100000) (hst:0<=st.m/\st.m<=1000) (hX:XG B lim tm s P k) (hsys:SysAt H o t tm s A) (hS:SrAt H g o A L lx cl e p xp R st S) :
    ∃ H' A' tm' s',SysAt H' o t tm' s' A'/\Stp (S++A) H H'/\(∀ a∈A',a∈A\/H.length<=a) /\
      (Vh [.ptr g 0,xn] H=some (.tuple [.str (gN L p k G).1,J xO 0],H')/\XG B lim tm' s' (gP L p k G P) (gK k G)/\SrAt H' g o A' L lx cl e p xp R (gT L p k G P st) S \/
       ∃ er,Vh [.ptr g 0,xn] H=some (.tuple [.str [],J xO er],H')/\Bad B lim tm' s' er):=by
  have hal:=SS.len hx 9;rw[zN]at hal;rw[LS];unfold DT;by_cases h1:G.length=1
  · obtain⟨y,rfl⟩:∃ y,G=[y]:=by
      match G,h1 with
      |[y],_=>exact⟨y,rfl⟩
    have e1:(((([y]:List Pr).length:Nat):Int)==1)=true:=rfl;have hidx:=SS.idx hx (i:=0) (s:=y.1) rfl;refine⟨H,A,tm,s,hsys,Stp.refl _ _,fun a h=>.inl h,.inl ⟨?_,hX,hS⟩⟩;simp only[go_sem,hal,e1];have hidx:Zo 1 xn (J xO 0)=some (.vp [.str y.1]):=hidx;simp only[go_sem,hidx,Zz];rfl
  have e1:((G.length:Int)==1)=false:=by rw[beq_eq_false_iff_ne];omega
  have f1:gN L p k G=gM L p k G:=by
    match G,h1,hG0 with
    |x::y::r,_,_=>rfl
  have f2:gP L p k G P=Of G (P++[gM L p k G]):=by
    match G,h1,hG0 with
    |x::y::r,_,_=>rfl
  have f3:gK k G=k+1:=by
    match G,h1,hG0 with
    |x::y::r,_,_=>rfl
  have f4:gT L p k G P st=⟨st.r,st.m+1,st.y,max st.k (ZG (P++[gM L p k G]):Int)⟩:=by
    match G,h1,hG0 with
    |x::y::r,_,_=>rfl
  rw[f1,f2,f3,f4];obtain⟨H1,A1,tm1,s1,r2,r4,r5,rr⟩:=ZoY hl hok hsm hs hks hkl hB hX hk hm hGP hG5 hx hc hsys;have hSo:=hS.off;have hS1:=hS.stp r4 hSo r5;obtain⟨x,g1,g2,g3,g4,g5⟩:=hS;have l0:=ZN g1 0 (v:=.ptr o 0) rfl;have l1:=ZjS g1;have l7:=Zha g1;have e0:((0:Int) != 0)=false:=rfl;have b1:Stp (S++A) H H1:=r4.mono fun a ha=>zH _ ha;rcases rr with ⟨r1,r3⟩|⟨er,r1,hb⟩
  rotate_left
  · have he:=hb.ne
    refine⟨H1,A1,tm1,s1,r2,b1,r5,.inr ⟨er,?_,hb⟩⟩;simp only[go_sem,hal,e1,KN,zC,l0,l1,l7,r1,zA,zB,he]
  obtain⟨x1,j1,j2,j3,j4,j5⟩:=hS1;have j4':=zU.1 j4;have l14:=ZN j1 14 (v:=J xO st.m) rfl;have wm:xN.wrap (st.m+1)=st.m+1:=Zp (by omega) (by omega);have s14:=V9 j1 14 (v:=J xO (st.m+1)) rfl rfl (by rw[EN];omega);have e14:((W4 o L lx cl e p xp x1 st).set 14 (J xO (st.m+1)))=W4 o L lx cl e p xp x1 { st with m:=st.m+1 }:=rfl;rw[e14]at s14;have i1:=Zq (zD (W4 o L lx cl e p xp x1 { st with m:=st.m+1 })) j1;have t2:Stp (g::ZI x1) H1 (H1.set g (.cells (W4 o L lx cl e p xp x1 { st with m:=st.m+1 }))):=Stp.set _ _ (by simp);have hsys2:SysAt (H1.set g (.cells (W4 o L lx cl e p xp x1 { st with m:=st.m+1 }))) o t tm1 s1 A1:=r2.stp t2 fun a ha hg=>j3 a hg ha
  have hS2:SrAt (H1.set g (.cells (W4 o L lx cl e p xp x1 { st with m:=st.m+1 }))) g o A1 L lx cl e p xp R { st with m:=st.m+1 } S :=
    ⟨x1,i1,j2.frame fun a ha=>yO fun (e:g=a)=>j4'.1 (by rw[e];exact ha),j3,j4,j5⟩
  have t2l:=t2.len;generalize hH2:H1.set g (.cells (W4 o L lx cl e p xp x1 { st with m:=st.m+1 }))=H2 at s14 hsys2 hS2 t2 t2l;obtain⟨H3,u1,u2,u3,u4⟩:=ZeI hB r3 hsys2 hS2;obtain⟨H',A',tm',s',m2,m5,m6,m1⟩:=Zwo hB hx hG5 hGn (.str (ZJ (k+1))) H G [] (P++[gM L p k G]) (k+1) ⟨st.r,st.m+1,st.y,max st.k (ZG (P++[gM L p k G]):Int)⟩ tm1 s1 A1 S H3 rfl (fun y hy=>zF _ (hGP y hy)) (by show (ZG (P++[gM L p k G]):Int)<=max st.k (ZG (P++[gM L p k G]):Int);omega) r3 u2 u3;have hl01:=r4.len;have hl23:=u4.len;have b2:Stp (S++A) H H2:=b1.trans t2 (fun _ h=>h) fun a h=>.inl (zF _ (by rw[j5];exact h));have b3:Stp (S++A) H H3:=b2.trans u4 (fun _ h=>h) fun a h=>.inl (zF _ h);have hz:((([]:List Pr).length:Nat):Int)=0:=rfl;rw[hz]at m1;refine⟨H',A',tm',s',m2,b3.trans m5 (fun _ h=>h) fun a h=>?_,fun a ha=>?_,?_⟩
  · rcases zE.1 h with h|h
    · exact .inl (zF _ h)
    · exact (r5 a h).imp (fun h=>zH _ h) id
  · rcases m6 a ha with h|h
    · exact r5 a h
    · exact .inr (by omega)
  · simp only[go_sem,hal,e1,KN,zC,l0,l1,l7,r1,zA,zB,e0,MI,yH,l14,wm,s14,u1]
    exact m1
end
section
variable {o g t:Nat}{L:Loc}{lx cl e:AV}{p:Spec}{xp:AV}
variable {B:List Fil}(hB:BOk B){lim:Nat}(hl:LocAV (.agg (L.cells lx cl e)) L)(hok:LocOk L)(hsm:LocSm L)(hs:SpecAV (.agg (p.cells xp)) p)(hks:∀ k∈p.keys,KeOk k)(hkl:p.keys.length<=1048576)
include hB hl hok hsm hs hks hkl
theorem Zr7 {w:Nat}(hw:2<=w)(hw2:w<=32){R:List Pr}(hRl:R.length<=41)(hRs:ShortP R)(hRn:ZZ R<=40){k0:Nat}{st0:Stt}(hk0:k0+R.length<=125)(hm0:0<=st0.m/\st0.m<=900)
    {x19:AV} (h19:IV x19 (U4 w R.length)) {P0:List Pr} (H0:Hp):∀ (m q:Nat) (x5:AV) (tm:Tmp) (s:Sto) (A S:List Nat) (H:Hp),cnt w R.length-q=m->q<=cnt w R.length->PInv w R k0 st0 q (YM L p w R q ⟨[],P0,k0,st0⟩) ->
    XG B lim tm s (YM L p w R q ⟨[],P0,k0,st0⟩).P (YM L p w R q ⟨[],P0,k0,st0⟩).k->SysAt H o t tm s A->SrAt H g o A L lx cl e p xp R (YM L p w R q ⟨[],P0,k0,st0⟩).st S ->
    NmAt H x5 ((YM L p w R q ⟨[],P0,k0,st0⟩).O.map (·.1))->(∀ a∈ZI x5,a∉A/\a∉S)->(ZI x5).Nodup->x5.cells=[x5]->x5.known=true ->
    ∃ H' A' tm' s',SysAt H' o t tm' s' A'/\Stp (ZI x5++(S++A)) H H'/\(∀ a∈A',a∈A\/H.length<=a) /\
      ((∃ S',Yj (.ptr g 0) x5 x19 (J xO (cnt w R.length:Int)) (J xO (q:Int)) H0 H=some (J xO 0,H')/\XG B lim tm' s' (YM L p w R (cnt w R.length) ⟨[],P0,k0,st0⟩).P (YM L p w R (cnt w R.length) ⟨[],P0,k0,st0⟩).k/\PInv w R k0 st0 (cnt w R.length) (YM L p w R (cnt w R.length) ⟨[],P0,k0,st0⟩) /\
        SrAt H' g o A' L lx cl e p xp (YM L p w R (cnt w R.length) ⟨[],P0,k0,st0⟩).O (YM L p w R (cnt w R.length) ⟨[],P0,k0,st0⟩).st S'/\(∀ a∈S',a∈S\/a∈ZI x5\/H.length<=a)) \/
       ∃ er,Yj (.ptr g 0) x5 x19 (J xO (cnt w R.length:Int)) (J xO (q:Int)) H0 H=some (J xO er,H')/\Bad B lim tm' s' er):=by
  have hw0:0<w:=by omega
  have hcl:=Zm7 hw0 hw2 R.length;intro m
  induction m with
  |zero =>
    intro q x5 tm s A S H hm hq hI hX hsys hS h5 h5o h5n h5c h5k;have:q=cnt w R.length:=by omega
    subst this;have hlt:decide ((cnt w R.length:Int)<(cnt w R.length:Int))=false:=by simp
    obtain⟨x,g1,g2,g3,g4,rfl⟩:=hS;have s12:=V9 g1 12 (v:=x5) h5c h5k (by rw[EN];omega);generalize YM L p w R (cnt w R.length) ⟨[],P0,k0,st0⟩=a at *;have e12:((W4 o L lx cl e p xp x a.st).set 12 x5)=W4 o L lx cl e p xp x5 a.st:=rfl;rw[e12]at s12;have hst:Stp (g::ZI x) H (H.set g (.cells (W4 o L lx cl e p xp x5 a.st))):=Stp.set _ _ (by simp);have hg5:g∉ZI x5:=fun h=>(h5o g h).2 (by simp);refine⟨_,A,tm,s,hsys.stp hst fun b hb hg=>g3 b hg hb,hst.mono fun b hb=>zH _ (zF _ hb),fun b h=>.inl h,.inl ⟨g::ZI x5,?_,hX,hI,⟨x5,Zq _ g1,h5.frame fun b hb=>yO fun (e:g=b)=>hg5 (by rw[e];exact hb),fun b hb hA=>?_,zU.2 ⟨hg5,h5n⟩,rfl⟩,fun b hb=>?_⟩⟩
    · rw[Gy]
      simp only[go_sem,hlt,Eh,zC,s12]
    · rcases zG.1 hb with h|h
      · exact g3 g (by simp) (h ▸ hA)
      · exact (h5o b h).1 hA
    · rcases zG.1 hb with h|h
      · exact .inl (by simp[h])
      · exact .inr (.inl h)
  |succ m ih =>
    intro q x5 tm s A S H hm hq hI hX hsys hS h5 h5o h5n h5c h5k;have hqc:q<cnt w R.length:=by omega
    have hlt:decide ((q:Int)<(cnt w R.length:Int))=true:=by rw[decide_eq_true_eq];omega
    have hb:=ZdD hw0 hqc;have hw1:xN.wrap ((q:Int)+1)=((q+1:Nat):Int):=by rw[Zp (by omega) (by omega)];omega
    obtain⟨x25,y1,y2⟩:=h19.get (Zwd hqc);have hal:=y2.len 3;have hGw:(X2 w R q).length<=w:=by unfold X2;rw[xH];omega
    have hI':=hI.step (L:=L) (p:=p) hw hb hRs hX.x.nd1;have hrec:YM L p w R (q+1) ⟨[],P0,k0,st0⟩=Zlx L p (X2 w R q) (YM L p w R q ⟨[],P0,k0,st0⟩):=rfl;rw[<-hrec]at hI';have hSo:=hS.off;have hSl:=hS.lt;have hAl:=hsys.lt;have h5l:=h5.lt;have hS':=hS;obtain⟨x,g1,g2,g3,g4,g5⟩:=hS;have hgH:=Zg g1;obtain⟨x8,H1,r1,r2,r3,r4⟩:=ZqW (o:=o) (g:=g) (L:=L) (lx:=lx) (cl:=cl) (e:=e) (p:=p) (xp:=xp) g2.ss (N:=H.length) hgH y2 rfl (Nat.le_of_lt hb) (by omega) (by omega) x5 x19 (J xO (cnt w R.length:Int)) (J xO (q:Int)) H0 (X2 w R q) [] .nils H rfl (.inl ⟨rfl,rfl⟩) (fun a ha=>by cases ha) (zK _) g1;have t1:Stp [] H H1:=⟨r4,fun a ha _=>r3 a ha⟩;have hsys1:=hsys.stp t1 fun a _ h=>by cases h
    have hS1:=hS'.stp (A':=A) t1 (fun a _ h=>by cases h) fun a h=>.inl h;have h51:NmAt H1 x5 ((YM L p w R q ⟨[],P0,k0,st0⟩).O.map (·.1)):=h5.frame fun a ha=>r3 a (h5l a ha);have hdr:=Zmh w R q;have hGP:∀ z∈X2 w R q,z∈(YM L p w R q ⟨[],P0,k0,st0⟩).P:=fun z hz=>hI.perm.mem_iff.2 (by rw[hdr];simp[hz])
    have hGn:((X2 w R q).map (·.1)).Nodup:=by
      have:=(hI.perm.map (·.1)).nodup_iff.1 hX.x.nd;rw[hdr,zT,zT]at this;exact (yC.1 (yC.1 this).2.1).1
    have hOl:=hI.len
    have hPl:(YM L p w R q ⟨[],P0,k0,st0⟩).P.length<=41:=by
      have:=hI.perm.length_eq;rw[zO,xG,hOl]at this;have:q<=q*w:=Nat.le_mul_of_pos_right _ hw0;omega
    have hkk:=hI.kle;have hRsG:ShortP (X2 w R q):=fun z hz=>hRs z (yP (xD hz))
    have hlinesG:ZZ (X2 w R q)<=40:=by
      have:ZZ R=ZZ (R.take (q*w))+ZZ (R.drop (q*w)):=by rw[<-Kg,yN]
      rw[hdr,Kg]at this;omega
    have hlinesP:ZZ (YM L p w R q ⟨[],P0,k0,st0⟩).P<=40:=by
      rw[Zoy hI.perm,Kg];have:ZZ R=ZZ (R.take (q*w))+ZZ (R.drop (q*w)):=by rw[<-Kg,yN]
      have:=hI.lines;omega
    have hshP:ShortP (YM L p w R q ⟨[],P0,k0,st0⟩).P:=fun z hz=>by
      rcases zE.1 (hI.perm.mem_iff.1 hz) with h|h
      · exact hI.short z h
      · exact hRs z (yP h)
    have hc1:=hshP.cost;have hc2:=hRsG.cost;have hmm:=hI.m
    have hcc:ZG (YM L p w R q ⟨[],P0,k0,st0⟩).P+ZG (X2 w R q)<=100000:=by
      have a1:ZZ (YM L p w R q ⟨[],P0,k0,st0⟩).P*206<=40*206:=yE _ hlinesP;have a2:ZZ (X2 w R q)*206<=40*206:=yE _ hlinesG;omega
    obtain⟨H2,A2,tm2,s2,u2,u5,u6,uu⟩:=ZqA hB hl hok hsm hs hks hkl r2.ss (ZjF hw hb) (by omega) hGn hGP (by omega) (by omega) hcc ⟨by omega,by omega⟩ hX hsys1 hS1;have b1:Stp (ZI x5++(S++A)) H H2:=(t1.mono fun a h=>by cases h).trans u5 (fun _ h=>h) fun a h=>.inl (zH _ h);have u6o:∀ a∈A2,a∈A\/H.length<=a:=fun a ha=>(u6 a ha).imp id fun h=>by omega
    have e0:((0:Int) != 0)=false:=rfl
    have hmid:Yj (.ptr g 0) x5 x19 (J xO (cnt w R.length:Int)) (J xO (q:Int)) H0 H=Vn (.ptr g 0) x5 x8 x19 (J xO (cnt w R.length:Int)) (J xO (q:Int)) H0 H1:=by
      rw[Gy];simp only[go_sem,hlt,Ei,y1,Zz,hal];exact r1
    rcases uu with ⟨u1,u3,u4⟩|⟨er,u1,hbd⟩
    rotate_left
    · have he:=hbd.ne
      refine⟨H2,A2,tm2,s2,u2,b1,u6o,.inr ⟨er,?_,hbd⟩⟩;rw[hmid,Gx];simp only[u1,go_sem,zA,zB,he]
    have h5o1:∀ a∈ZI x5,a∉S++A:=fun a ha h=>by
      rcases zE.1 h with h|h
      · exact (h5o a ha).2 h
      · exact (h5o a ha).1 h
    have h52:NmAt H2 x5 ((YM L p w R q ⟨[],P0,k0,st0⟩).O.map (·.1)):=h51.frame fun a ha=>u5.at' a (by have:=h5l a ha;omega) (h5o1 a ha);obtain⟨x6,H3,n1,n2,n3,n4,n5,n6,n7⟩:=h52.app (gN L p (YM L p w R q ⟨[],P0,k0,st0⟩).k (X2 w R q)).1 (by simp;omega);have hl12:=u5.len;have hl23:=n3.len
    have hsys3:=u2.stp n3 fun a ha h=>by
      rcases u6 a ha with k|k
      · exact (h5o a h).1 k
      · have:=h5l a h;omega
    have hS3:=u4.stp (A':=A2) n3 (fun a ha h=>(h5o a h).2 ha) fun a h=>.inl h;have hA2l:=u2.lt;have hS2l:=u4.lt;rw[show Zlx L p (X2 w R q) (YM L p w R q ⟨[],P0,k0,st0⟩)=YM L p w R (q+1) ⟨[],P0,k0,st0⟩ from rfl]at *
    have eO:(YM L p w R (q+1) ⟨[],P0,k0,st0⟩).O.map (·.1)=(YM L p w R q ⟨[],P0,k0,st0⟩).O.map (·.1)++[(gN L p (YM L p w R q ⟨[],P0,k0,st0⟩).k (X2 w R q)).1]:=by
      show ((YM L p w R q ⟨[],P0,k0,st0⟩).O++[gN L p (YM L p w R q ⟨[],P0,k0,st0⟩).k (X2 w R q)]).map (fun x:Pr=>x.1)=_;rw[zT];rfl
    obtain⟨H',A',tm',s',m2,m6,m7,m1⟩:=ih (q+1) x6 tm2 s2 A2 S H3 (by omega) (by omega) hI' u3 hsys3 hS3 (by rw[eO];exact n2) (fun a ha=>by
      rcases n4 a ha with h|h
      · refine⟨fun hA=>?_,(h5o a h).2⟩
        rcases u6 a hA with k|k
        · exact (h5o a h).1 k
        · have:=h5l a h;omega
      · exact⟨fun hA=>by have:=hA2l a hA;omega,fun hA=>by have:=hS2l a hA;omega⟩) n7 n5 n6
    have hone:(ZB 1 [(0,yZ (gN L p (YM L p w R q ⟨[],P0,k0,st0⟩).k (X2 w R q)).1)] [(.str [])]).map (AV.vs 1 .clip)=some (.vs 1 .clip [.str (gN L p (YM L p w R q ⟨[],P0,k0,st0⟩).k (X2 w R q)).1]):=rfl
    have hstep:Yj (.ptr g 0) x5 x19 (J xO (cnt w R.length:Int)) (J xO (q:Int)) H0 H=Yj (.ptr g 0) x6 x19 (J xO (cnt w R.length:Int)) (J xO ((q+1:Nat):Int)) H0 H3:=by
      rw[hmid,Gx];simp only[u1,go_sem,zA,zB,e0,Ek,hone,n1,Ej,hw1]
    rw[hstep];have b2:Stp (ZI x5++(S++A)) H H3:=b1.trans n3 (fun _ h=>h) fun a h=>.inl (zF _ h);refine⟨H',A',tm',s',m2,b2.trans m6 (fun _ h=>h) fun a h=>?_,fun a ha=>?_,m1.imp (fun⟨S',v1,v2,v3,v4,v5⟩=>⟨S',v1,v2,v3,v4,fun a ha=>?_⟩) id⟩
    · rcases zE.1 h with h|h
      · rcases n4 a h with h|h
        · exact .inl (zF _ h)
        · exact .inr (by omega)
      · rcases zE.1 h with h|h
        · exact .inl (zH _ (zF _ h))
        · exact (u6o a h).imp (fun h=>zH _ (zH _ h)) id
    · rcases m7 a ha with h|h
      · exact u6o a h
      · exact .inr (by omega)
    · rcases v5 a ha with h|h|h
      · exact .inl h
      · rcases n4 a h with h|h
        · exact .inr (.inl h)
        · exact .inr (.inr (by omega))
      · exact .inr (.inr (by omega))
theorem ZtC {w:Nat}(hw:2<=w)(hw2:w<=32){R:List Pr}(hRl:R.length<=41)(hRs:ShortP R)(hRn:ZZ R<=40){k0:Nat}{st0:Stt}(hk0:k0+R.length<=125)(hm0:0<=st0.m/\st0.m<=900){P0:List Pr}(hP:P0.Perm R)
    {tm:Tmp} {s:Sto} {A S:List Nat} {H:Hp} (hX:XG B lim tm s P0 k0) (hsys:SysAt H o t tm s A) (hS:SrAt H g o A L lx cl e p xp R st0 S) :
    ∃ H' A' tm' s',SysAt H' o t tm' s' A'/\Stp (S++A) H H'/\(∀ a∈A',a∈A\/H.length<=a) /\
      ((∃ S',Wg [.ptr g 0,J xO (w:Int)] H=some (J xO 0,H')/\XG B lim tm' s' (YM L p w R (cnt w R.length) ⟨[],P0,k0,st0⟩).P (YM L p w R (cnt w R.length) ⟨[],P0,k0,st0⟩).k/\PInv w R k0 st0 (cnt w R.length) (YM L p w R (cnt w R.length) ⟨[],P0,k0,st0⟩) /\
        SrAt H' g o A' L lx cl e p xp (YM L p w R (cnt w R.length) ⟨[],P0,k0,st0⟩).O (YM L p w R (cnt w R.length) ⟨[],P0,k0,st0⟩).st S'/\(∀ a∈S',a∈S\/H.length<=a)) \/
       ∃ er,Wg [.ptr g 0,J xO (w:Int)] H=some (J xO er,H')/\Bad B lim tm' s' er):=by
  have hI:PInv w R k0 st0 0 ⟨[],P0,k0,st0⟩:=⟨by simpa using hP,zK _,rfl,by simp[ZZ],(fun x hx=>by cases hx),⟨Int.le_refl _,by simp⟩,rfl,rfl⟩;have hS':=hS;obtain⟨x,g1,g2,g3,g4,g5⟩:=hS;have l12:=ZN g1 12 (v:=x) rfl;have hal:=SS.len g2.ss 9;rw[zN]at hal;have hwn:AM (w:Int)=w:=by unfold AM;omega
  obtain⟨y,p1,p2⟩:=ZtE (R.length:Int) (w:Int) (by omega) H;rw[hwn]at p2;have hn:((R.length:Nat):Int).toNat=R.length:=by omega
  rw[hn]at p2;have hpl:=p2.len 38;rw[Zh3]at hpl;obtain⟨H',A',tm',s',m2,m6,m7,m1⟩:=Zr7 hB hl hok hsm hs hks hkl hw hw2 hRl hRs hRn hk0 hm0 p2 (P0:=P0) H (cnt w R.length) 0 .nils tm s A S H (by omega) (yS _) hI hX hsys hS' (.inl ⟨rfl,rfl⟩) (fun a ha=>by cases ha) (by simp[ZI]) rfl rfl
  have hF:Wg [.ptr g 0,J xO (w:Int)] H=Yj (.ptr g 0) .nils y (J xO (cnt w R.length:Int)) (J xO ((0:Nat):Int)) H H:=by
    rw[EX];unfold Rj;simp only[go_sem,zC,l12,hal,p1,hpl];rfl
  rw[hF];refine⟨H',A',tm',s',m2,m6,m7,m1.imp (fun⟨S',v1,v2,v3,v4,v5⟩=>⟨S',v1,v2,v3,v4,fun a ha=>?_⟩) id⟩;rcases v5 a ha with h|h|h
  · exact .inl h
  · cases h
  · exact .inr h
end
section
variable {o t g N:Nat}{tm:Tmp}{A:List Nat}{L:Loc}{lx c e:AV}{p:Spec}{xp:AV}{rx:AV}{rs:List Nat}
  (hm:TmpOk tm)
  (hl:LocAV (.agg (L.cells lx c e)) L) (hok:LocOk L) (hs:SpecAV (.agg (p.cells xp)) p) (hks:∀ k∈p.keys,KeOk k)
  (hrx:Sl 1 rx (rs.map fun r=>yT r 0)) (hnd:rs.Nodup) (hlen:rs.length<=1048576)
  (hgA:g∉A) (hgd:g∉rs) (hgN:g<N) (hrN:∀ r∈rs,r<N) (hAN:∀ a∈A,a<N)
include hm hl hok hs hks hrx hnd hlen hgA hgd hgN hrN hAN
theorem Zox (H0:Hp):∀ (k:Nat) (ds:List Rd) (last:Zm) (has:Bool) (x6:AV) (out:List Zl) (s:Sto) (H:Hp),Y4 ds<=k->out.length+Y4 ds<=65536->last.length<=1048576->ds.map Rd.r=rs->StoOk s->s.crashed=false->SysAt H o t tm s A->(∀ x∈ds,RdF H o tm s A x) ->
    H[g]?=some (.cells (KV L lx c e p xp (ZK p==0) rx last has))->RowN N H 1 x6 (out.map yZ)->N<=H.length ->
    ∃ H' s',Tk s s'/\SysAt H' o t tm s' A/\(∀ a,a<N->a∉g::rs++A->H'[a]?=H[a]?)/\N<=H'.length /\
      ((s'.crashed=false/\∃ x6' out' ds',Yp (.ptr g 0) x6 H0 H=some (.tuple [x6',J xO 0],H')/\AllD L p last has ds out' ds'/\RowN N H' 1 x6' ((out++out').map yZ)) \/
       s'.crashed=true/\Yp (.ptr g 0) x6 H0 H=some (.tuple [.nils,J xO 19],H')):=by
  have e0:((0:Int) != 0)=false:=rfl;have e19:((19:Int) != 0)=true:=rfl
  have hlow:∀ a,a∈g::rs++A->a<N:=fun a ha=>by
    rcases zE.1 ha with h|h
    · rcases zG.1 h with e'|h
      · omega
      · exact hrN a h
    · exact hAN a h
  have hrowf:∀ {H H':Hp} {x:AV} {l:List AV},RowN N H 1 x l->Stp (g::rs++A) H H'->RowN N H' 1 x l:=fun h hS=>h.imp id fun⟨u,e',a1,a2,a3⟩=>⟨u,e',a1,hS.get a2 (fun h=>by have:=hlow u h;omega),a3⟩;intro k
  induction k with
  |zero =>
    intro ds last has x6 out s H ht hto hlast hr hk hc hsys hrd hg hrow hN;obtain⟨H1,s1,hT,p3,p4,qq⟩:=LY hm hl hok hs hks hrx hnd hlen hgA hgd hlast hr hk hc hsys hrd hg;rcases qq with ⟨c1,p1⟩|⟨c1,z,ds1,p1,p2,p5,p6,p7⟩
    · refine⟨H1,s1,hT,p3,fun a ha hn=>p4.at' a (by omega) hn,zQ hN p4.len,.inr ⟨c1,?_⟩⟩
      rw[X9];simp only[go_sem,p1,zA,zB,e19]
    cases z with
    |some a=>have:=p2.less.2 a rfl;omega
    |none =>
      refine⟨H1,s1,hT,p3,fun a ha hn=>p4.at' a (by omega) hn,zQ hN p4.len,.inl ⟨c1,x6,[],_,?_,.done p2,by rw[zR];exact hrowf hrow p4⟩⟩;rw[X9];simp only[go_sem,p1,zA,zB,e0,U0,yA,yI,zI]
  |succ k ih =>
    intro ds last has x6 out s H ht hto hlast hr hk hc hsys hrd hg hrow hN;obtain⟨H1,s1,hT,p3,p4,qq⟩:=LY hm hl hok hs hks hrx hnd hlen hgA hgd hlast hr hk hc hsys hrd hg;rcases qq with ⟨c1,p1⟩|⟨c1,z,ds1,p1,p2,p5,p6,p7⟩
    · refine⟨H1,s1,hT,p3,fun a ha hn=>p4.at' a (by omega) hn,zQ hN p4.len,.inr ⟨c1,?_⟩⟩
      rw[X9];simp only[go_sem,p1,zA,zB,e19]
    cases z with
    |none =>
      refine⟨H1,s1,hT,p3,fun a ha hn=>p4.at' a (by omega) hn,zQ hN p4.len,.inl ⟨c1,x6,[],_,?_,.done p2,by rw[zR];exact hrowf hrow p4⟩⟩;rw[X9];simp only[go_sem,p1,zA,zB,e0,U0,yA,yI,zI]
    |some a =>
      have hla:a.length<=1048576:=by
        obtain⟨x,hx,ha⟩:=p2.mem a rfl;have:=xB.1 (hrd x hx).fit a ha;simp at this;omega
      have hls:=p2.less.2 a rfl;have hN1:N<=H1.length:=zQ hN p4.len;obtain⟨x',H2,w1,w2,w3,w4,_⟩:=(hrowf hrow p4).app hN1 16 (.vs 1 .clip [.str a]) [.str a] rfl (by simp;omega);have hone:(ZB 1 [(0,yZ a)] [(.str [])]).map (AV.vs 1 .clip)=some (.vs 1 .clip [.str a]):=rfl;have hsys2:SysAt H2 o t tm s1 A:=SysAt.frame p3 fun b hb=>w4 b (hAN b hb);have hrd2:∀ y∈ds1,RdF H2 o tm s1 A y:=fun y hy=>(p6 y hy).frame (w4 y.r (hrN _ (by rw[<-p5];exact zJ hy)));obtain⟨H3,s3,hT3,m4,m6,m7,mm⟩:=ih ds1 a true x' (out++[a]) s1 H2 (by omega) (by simp;omega) hla p5 (hT.sto hk) c1 hsys2 hrd2 ((w4 g hgN).trans p7) (by rw[zT];exact w2) w3
      have hstep:Yp (.ptr g 0) x6 H0 H=Yp (.ptr g 0) x' H0 H2:=by
        rw[X9];simp only[go_sem,p1,zA,zB,e0,U0,yA,yI,zP,MN,hone,w1]
      rw[hstep];exact⟨H3,s3,hT.trans hT3,m4,fun b hb hn=>(m6 b hb hn).trans ((w4 b hb).trans (p4.at' b (by omega) hn)),m7,mm.imp (fun⟨c3,x6',out',ds',m1,m2,m3⟩=>⟨c3,x6',a::out',ds',m1,.more p2 m2,by rw[show out++a::out'=out++[a]++out' by simp];exact m3⟩) id⟩
end
section
variable {o g t:Nat}{L:Loc}{lx cl e:AV}{p:Spec}{xp:AV}{B:List Fil}(hB:BOk B){lim:Nat}(hl:LocAV (.agg (L.cells lx cl e)) L)(hok:LocOk L)(hsm:LocSm L)(hs:SpecAV (.agg (p.cells xp)) p)(hks:∀ k∈p.keys,KeOk k)(hkl:p.keys.length<=1048576)
include hB hl hok hsm hs hks hkl
theorem ZqK {R P:List Pr}(hRl:R.length<=64)(hRn:ZZ R<=40){k:Nat}{st:Stt}{tm:Tmp}{s:Sto}{A S:List Nat}{H:Hp}(hRP:∀ x∈R,x∈P)(hX:XG B lim tm s P k)(h:SysAt H o t tm s A)(hS:SrAt H g o A L lx cl e p xp R st S) :
    ∃ H' s',Tk s s'/\SysAt H' o t tm s' A/\Stp A H H'/\((s'.crashed=false/\∃ y,XU [.ptr g 0] H=some (.tuple [y,J xO 0],H')/\SS y (QI L p (R.map (·.2)))) \/
      s'.crashed=true/\XU [.ptr g 0] H=some (.tuple [.nils,J xO 19],H')):=by
  have hSo:=hS.off;have hSl:=hS.lt;have hAl:=h.lt;obtain⟨x,g1,g2,g3,g4,rfl⟩:=hS;have l12:=ZN g1 12 (v:=x) rfl;have hal:=SS.len g2.ss 9;rw[zN]at hal;have hgH:=Zg g1;have hRm:(R.map (·.1)).length=R.length:=zN ..;obtain⟨H2,rx,rs,r1,r2,r3,r4,r5,r6,r7,r8,r9⟩:=ZjJ g2.ss (by rw[hRm];omega) g o H.length (cs0:=W4 o L lx cl e p xp x st) rfl H (R.map (·.1)) [] .nils [] H rfl rfl (RowN.nil _ _ _) (zK _) g1;have g1':=r5 _ _ g1;have hrl:rs.length=R.length:=by rw[r3,zN]
  rw[hRm]at r1;have l1:=ZjS g1';have l7:=Zha g1';obtain⟨H3,gm,lx',c',e',xp',rx',n1,n2,n3,n4,n5,n6,n7⟩:=ZlD hl hsm hs hkl (rx:=rx) (rs:=rs) (by simpa using r2.sl) (by omega) H2;have hl23:=n6.len;have hgmH:=Zg n2
  have hrlt:∀ r∈rs,r<H2.length:=fun r hr=>by
    obtain⟨i,hi⟩:=yG hr;have hil:=(yX.1 hi).1;obtain⟨rr,k1,k2⟩:=r6 i (R.map (·.1))[i] (zY (by omega));rw[hi]at k1;injection k1 with k1;subst k1;exact Zg k2
  have hsys3:=h.frame (H':=H3) fun b hb=>(n6.at' b (by have:=hAl b hb;omega) (by simp)).trans (r4 b (hAl b hb));obtain⟨d1,d2⟩:=ZtP rs (R.map (·.1)) (R.map (·.2)) r3 (by simp)
  have hrd:∀ d∈R1 rs (R.map (·.1)) (R.map (·.2)),RdF H3 o tm s A d:=fun d hd=>by
    obtain⟨i,r,n,l,e1,e2,e3,rfl⟩:=Zh4 _ _ _ d hd;obtain⟨rr,k1,k2⟩:=r6 i n e2;rw[e1]at k1;injection k1 with k1;subst k1;rw[zX]at e2 e3
    cases hgi:R[i]? with
    |none=>rw[hgi]at e2;cases e2
    |some z =>
      rw[hgi]at e2 e3;cases e2;cases e3;have hzP:=hRP z (zV hgi);have hc:=Zka hzP;have hPc:=hX.x.cost;refine⟨.inr (.inr ⟨[],?_,rfl⟩),fun hA=>?_,hX.x.fit z hzP,by rw[QU];exact zQ hc (by omega),hX.x.find hzP,_,hX.x.get hB hzP,rfl⟩
      · exact (n6.at' r (Zg k2) (by simp)).trans k2
      · have:=hAl r hA
        have:=r8 r (zV e1);omega
  have hgA:gm∉A:=fun hA=>by have:=hAl gm hA;omega
  have hgr:gm∉rs:=fun hr=>by have:=hrlt gm hr;omega
  have htot:Y4 (R1 rs (R.map (·.1)) (R.map (·.2)))=ZZ R:=by rw[<-EL,d2,Zei]
  obtain⟨H4,s4,hT4,m4,m6,m7,mm⟩:=Zox (N:=H3.length) hX.x.tmOk n3 hok n4 hks n5 r7 (by omega) hgA hgr hgmH (fun r hr=>by have:=hrlt r hr;omega) (fun a ha=>by have:=hAl a ha;omega) H
    (ZZ R) (R1 rs (R.map (·.1)) (R.map (·.2))) [] false .nils [] s H3 (by omega) (by simp;omega) (by simp) d1 (hX.sto hB) hX.crashed hsys3 hrd n2 (RowN.nil _ _ _) (zK _)
  have hF:XU [.ptr g 0] H=Yp (.ptr gm 0) .nils H H3:=by
    rw[LT];unfold DU;simp only[go_sem,zC,l12,hal];refine r1.trans ?_;rw[MM];simp only[go_sem,zC,l1,l7,n1]
  have hSt:Stp A H H4:=⟨by omega,fun a ha hn=>by
    rw[m6 a (by omega) (fun h=>?_),n6.at' a (by omega) (by simp),r4 a ha];rcases zE.1 h with h|h
    · rcases zG.1 h with h|h
      · omega
      · have:=r8 a h;omega
    · exact hn h⟩
  rw[hF];refine⟨H4,s4,hT4,m4,hSt,mm.imp (fun⟨c4,y,out,ds',m1,m2,m3⟩=>⟨c4,y,m1,?_⟩) id⟩;have hmg:=m2.merge;rw[d2]at hmg;subst hmg;exact m3.sl
end
def Za7 (B:List Fil)(s:Sto)(j:List Zm):Prop:=∃ T,s.files=B++T/\∀ f∈T,f.name∈j
theorem ZiM {s:Sto}(h:StoOk s)(n:Zm):StoOk (s.remove n).2:=by
 have j:=Zny h;unfold Sto.remove;split
 ·exact j
 ·split
  ·exact j
  ·have:=Zx4 j n;rw[Xx]at this;exact this
theorem Zz2 {l:List Fil}{n:Zm}(h:∀ g∈l,g.name≠n):VR l n=l:=by
 induction l with
 |nil=>rfl
 |cons x l u =>
  unfold VR;rw[if_neg (fun e=>h x (by simp) e.symm),u fun g j=>h g (by simp[j])]
theorem Zgb (s:Sto)(n:Zm):(s.remove n).2.limit=s.limit/\(s.remove n).2.count<=s.count /\
 ((s.remove n).1=19/\(s.remove n).2.crashed=true/\(s.crashed=true\/0<s.count)/\(s.remove n).2.files=s.files\/((s.remove n).1=0\/(s.remove n).1=5)/\s.crashed=false/\(s.remove n).2.crashed=false/\(s.remove n).2.files=VR s.files n):=by
 have j:s.tick.count<=s.count:=by
  unfold Sto.tick;split
  ·exact zK _
  ·split
   ·exact yS _
   ·exact xK _ _
 have u:s.tick.crashed=false->s.crashed=false:=fun h=>by
  cases hc:s.crashed with
  |false=>rfl
  |true=>unfold Sto.tick at h;rw[if_pos hc,hc]at h;cases h
 unfold Sto.remove;split
 ·rename_i h;refine⟨P3 s,j,.inl ⟨rfl,h,?_,Xx s⟩⟩
  cases hc:s.crashed with
  |true=>exact .inl rfl
  |false=>exact .inr ((Tk.tick hc).die h)
 ·rename_i h;have y:s.tick.crashed=false:=by simpa using h
  split
  ·rename_i z;exact⟨P3 s,j,.inr ⟨.inr rfl,u y,y,by show s.tick.files=_;rw[Xx,Zz2 (Zkl.1 z)]⟩⟩
  ·exact⟨P3 s,j,.inr ⟨.inl rfl,u y,y,rfl⟩⟩
theorem ZtV {T:List Fil}{n:Zm}(hnd:(T.map Fil.name).Nodup){f:Fil}(j:f∈VR T n):f∈T/\f.name≠n:=by
 induction T with
 |nil=>cases j
 |cons x T y =>
  rw[yM,zU]at hnd;unfold VR at j;split at j
  ·rename_i u;exact⟨by simp[j],fun e=>hnd.1 (by rw[<-u,<-e];exact zJ j)⟩
  ·rename_i u;rcases zG.1 j with e|j
   ·subst e;exact⟨by simp,fun e=>u e.symm⟩
   ·obtain⟨a,b⟩:=y hnd.2 j;exact⟨by simp[a],b⟩
theorem Zo4 {o t:Nat}{B:List Fil}(H0:Hp):∀ (k:Nat) (tm:Tmp) (s:Sto) (A:List Nat) (H:Hp),tm.names.length=k->SysAt H o t tm s A->TmpOk tm->StoOk s->tm.names.Nodup->(∀ n∈tm.names,n∉B.map Fil.name)->Za7 B s tm.names->tm.closed=false ->
 ∃ H' A' bi s' er,X1 (.ptr o 0) H0 H=some (J xO er,H')/\SysRes H H' o t bi s' A A'/\StoOk s'/\s'.limit=s.limit/\Za7 B s' tm.names/\s'.count<=s.count /\
  (er=0/\s'.files=B/\s'.crashed=s.crashed\/er=19/\s'.crashed=true/\(s.crashed=true\/0<s.count)):=by
 intro k
 induction k with
 |zero =>
  intro tm s A H hn h hm hk hnd ab U hcl;have aj:tm.names=[]:=List.length_eq_zero_iff.1 hn;have h':=h;obtain⟨B,S,⟨j,I,C,sl,u,rfl⟩,h2,h3,rfl⟩:=h;have l2:=ZN u.cells 2 (v:=C) rfl;have M:=SS.len u.names.ss 9;have O:decide ((0:Int)<(tm.names.length:Int))=false:=by rw[aj];rfl
  have s6:=V9 u.cells 6 (v:=.bool true) rfl rfl (by simp);have g6:=Zq (zD (zM [.ptr t 0,.str tm.owner,C,.map j,J xO (tm.limit:Int),J xO (tm.last:Int),.bool tm.closed] 6 (.bool true))) u.cells;have hS:Stp [o] H (H.set o (.cells (zM [.ptr t 0,.str tm.owner,C,.map j,J xO (tm.limit:Int),J xO (tm.last:Int),.bool tm.closed] 6 (.bool true)))):=Stp.set _ _ (by simp);generalize bl:H.set o (.cells (zM [.ptr t 0,.str tm.owner,C,.map j,J xO (tm.limit:Int),J xO (tm.last:Int),.bool tm.closed] 6 (.bool true)))=H1 at s6 g6 hS;have ak:=u.nd
  have an:∀ a∈j::ZI C,a∉[o]:=fun a ha hx=>by
   rw[zL.1 hx]at ha;exact (zU.1 ak).1 ha
  have aa:=u.lt;have bg:o∉S:=h3 o (by simp)
  have ay:s.files=B:=by
   obtain⟨T,e,hT⟩:=U;rw[aj]at hT
   cases T with
   |nil=>rw[e,zR]
   |cons f T=>have:=hT f (by simp);cases this
  refine⟨H1,(o::j::ZI C)++S,{ tm with closed:=true },s,0,?_,⟨⟨o::j::ZI C,S,⟨j,I,C,sl,⟨g6,u.names.frame fun a ha=>hS.at' a (aa a (by simp[ha])) (an a (by simp[ha])),(hS.at' j (aa j (by simp)) (an j (by simp))).trans u.map,u.sld,u.nd⟩,rfl⟩,h2.stp hS (fun a ha hx=>bg (by rw[zL.1 hx]at ha;exact ha)),h3,rfl⟩,hS.mono fun a ha=>by rw[zL.1 ha];simp,fun a ha=>.inl ha⟩,hk,rfl,U,zK _,.inl ⟨rfl,ay,rfl⟩⟩;rw[U6];simp only[go_sem,zC,l2,M,O,L9,s6]
 |succ k ih =>
  intro tm s A H hn h hm hk hnd ab U hcl
  obtain⟨n,F,y⟩:∃ n F,tm.names=n::F:=by
   cases hx:tm.names with
   |nil=>rw[hx]at hn;cases hn
   |cons n F=>exact⟨n,F,rfl⟩
  have bk:=h;obtain⟨B,S,⟨j,I,C,sl,u,rfl⟩,h2,h3,rfl⟩:=h;have l2:=ZN u.cells 2 (v:=C) rfl;have l0:=ZN u.cells 0 (v:=.ptr t 0) rfl;have M:=SS.len u.names.ss 9;have ba:=SS.idx u.names.ss (i:=0) (s:=n) (by rw[y];rfl);have O:decide ((0:Int)<(tm.names.length:Int))=true:=by rw[hn];simp
  obtain⟨H1,S1,r1,Y⟩:=E6 h2 hk n;have K:Zo 1 C (J xO 0)=some (.vp [.str n]):=ba;have be:=ab n (by rw[y];simp);have W:=ZiM hk n;obtain⟨V,R,D⟩:=Zgb s n;generalize bo:s.remove n=rr at r1 Y W V R D;obtain⟨er,s1⟩:=rr;dsimp only at r1 Y W V R D;have ao:=SysAt.store (o:=o) (tm:=tm) ⟨j,I,C,sl,u,rfl⟩ h3 Y;rcases D with ⟨rfl,c1,c9,ae⟩|⟨ax,c0,c1,ae⟩
  ·have aq:((19:Int) != 0)=true:=rfl;have ah:((19:Int) != 5)=true:=rfl;refine⟨H1,_,tm,s1,19,?_,ao,W,V,⟨U.choose,by rw[ae];exact U.choose_spec.1,U.choose_spec.2⟩,R,.inr ⟨rfl,c1,c9⟩⟩;rw[U6];simp only[go_sem,zC,l2,M,O,U5,K,Zz,l0,r1,aq,ah]
  have au:TmAt H1 o t j I C sl tm:=u.frame fun a ha=>Y.stp.at' a (u.lt a ha) (h3 a ha);obtain⟨H2,X,Z,q1,q2,q3,q4,_⟩:=Zih au hm n (by rw[y];simp);have bb:WE n tm.names=F:=by rw[y]at hnd ⊢;exact ZqF hnd
  rw[bb]at q2;have ac:=Y.at'.lt
  have ad:∀ a∈o::j::ZI C,a∉S1:=fun a ha hs=>by
   rcases Y.own a hs with E|E
   ·exact h3 a ha E
   ·have:=u.lt a ha;omega
  have af:StoreAt H2 t s1 S1:=Y.at'.stp q3 fun a ha hx=>ad a hx ha;have bn:=q3.len
  have aw:∀ a∈o::j::ZI X,a∉S1:=fun a ha hs=>by
   rcases zG.1 ha with e|ha
   ·exact ad a (by simp[e]) hs
   rcases zG.1 ha with e|ha
   ·exact ad a (by simp[e]) hs
   ·have:=q4 a ha;have:=ac a hs;omega
  have ag:SysAt H2 o t { tm with names:=F,sld:=Z.map (·.1) } s1 ((o::j::ZI X)++S1):=⟨_,S1,⟨j,I,X,Z,q2,rfl⟩,af,aw,rfl⟩;have hlen:=hm.len;have bf:F.length=k:=by rw[y]at hn;simpa using hn
  have bc:TmpOk { tm with names:=F,sld:=Z.map (·.1) }:=⟨hm.owner,hm.limit,by show F.length<=tm.last;omega,hm.last⟩;have al:F.Nodup:=by rw[y]at hnd;exact (zU.1 hnd).2
  have bh:Za7 B s1 F:=by
   obtain⟨T,e,hT⟩:=U;refine⟨VR T n,by rw[ae,e,Zb9 be],fun f az=>?_⟩
   have am:(T.map Fil.name).Nodup:=by
    have:=hk.nd;rw[e,zT]at this;exact (yC.1 this).2.1
   obtain⟨q1,q2⟩:=ZtV am az;have:=hT f q1;rw[y]at this;rcases zG.1 this with h|h
   ·exact absurd h q2
   ·exact h
  obtain⟨H3,A3,bj,s3,ar,m1,m2,m3,m4,m5,m6,m7⟩:=ih { tm with names:=F,sld:=Z.map (·.1) } s1 _ H2 bf ag bc W al (fun m bd=>ab m (by rw[y];simp[bd])) bh hcl;have bm:=Y.stp.len
  have Q:∀ a∈(o::j::ZI X)++S1,a∈(o::j::ZI C)++S\/H.length<=a:=fun a ha=>by
   rcases zE.1 ha with E|E
   ·rcases zG.1 E with e|E
    ·exact .inl (by simp[e])
    rcases zG.1 E with e|E
    ·exact .inl (by simp[e])
    ·have:=q4 a E;exact .inr (by omega)
   ·rcases Y.own a E with k2|k2
    ·exact .inl (by simp[k2])
    ·exact .inr k2
  have ai:Stp ((o::j::ZI C)++S) H H2:=ao.stp.trans q3 (fun _ h=>h) fun a ha=>.inl (zF _ ha)
  have hJ:X1 (.ptr o 0) H0 H=X1 (.ptr o 0) H0 H2:=by
   rw[U6];rcases ax with rfl|rfl
   ·have e0:((0:Int) != 0)=false:=rfl;simp only[go_sem,zC,l2,M,O,U5,K,Zz,l0,r1,e0,KY,q1]
   ·have e0:((5:Int) != 0)=true:=rfl;have e5:((5:Int) != 5)=false:=rfl;simp only[go_sem,zC,l2,M,O,U5,K,Zz,l0,r1,e0,e5,KY,q1]
  rw[hJ];have ap:∀ m∈F,m∈tm.names:=fun m hm=>by rw[y];simp[hm]
  refine⟨H3,A3,bj,s3,ar,m1,⟨m2.at',ai.trans m2.stp (fun _ h=>h) Q,fun a ha=>?_⟩,m3,m4.trans V,⟨m5.choose,m5.choose_spec.1,fun f U=>ap _ (m5.choose_spec.2 f U)⟩,zQ m6 R,m7.imp (fun⟨z1,z2,z3⟩=>⟨z1,z2,by rw[z3,c1,c0]⟩) (fun⟨z1,z2,z3⟩=>⟨z1,z2,.inr (z3.elim (fun z=>by rw[c1]at z;cases z) fun z=>by omega)⟩)⟩;rcases m2.own a ha with E|E
  ·exact Q a E
  ·have:=ai.len;exact .inr (by omega)
theorem Zhg {o t:Nat}{B:List Fil}{tm:Tmp}{s:Sto}{A:List Nat}{H:Hp}(h:SysAt H o t tm s A)(hm:TmpOk tm)(hk:StoOk s)(hnd:tm.names.Nodup)(z:∀ n∈tm.names,n∉B.map Fil.name)(E:Za7 B s tm.names)(hcl:tm.closed=false) :
 ∃ H' A' j s' u,Vk [.ptr o 0] H=some (J xO u,H')/\SysRes H H' o t j s' A A'/\StoOk s'/\s'.limit=s.limit/\Za7 B s' tm.names/\s'.count<=s.count /\
  (u=0/\s'.files=B/\s'.crashed=s.crashed\/u=19/\s'.crashed=true/\(s.crashed=true\/0<s.count)):=by
 obtain⟨H',A',j,s',u,m⟩:=Zo4 (o:=o) (t:=t) H tm.names.length tm s A H rfl h hm hk hnd z E hcl;refine⟨H',A',j,s',u,?_,m.2⟩;obtain⟨B,S,⟨M,C,O,sl,D,rfl⟩,I,K,rfl⟩:=h;have y:Yr (.pointer 124) .eql (.ptr o 0) .nilp=some (.bool false):=rfl;have F:=ZN D.cells 6 (v:=.bool false) (by rw[hcl];rfl);rw[LV];unfold DW;simp only[y,go_sem,L7,zC,F,L8];exact m.1
structure FxB (H:Hp)(sc ec mc cc o:Nat)(er:Int)(b:Bool):Prop where
  s:H[sc]?=some (.cells [J xO 0,J xO 0,J xO 0,J xO 0])
  e:H[ec]?=some (.cells [J xO er])
  m:H[mc]?=some (.cells [.ptr o 0])
  c:H[cc]?=some (.cells [.bool b])
theorem Zmp {H:Hp}{sc ec:Nat}{v:Int}(hs:H[sc]?=some (.cells [J xO 0,J xO 0,J xO 0,J xO 0]))(he:H[ec]?=some (.cells [J xO v]))(hne:ec≠sc)(er:Int) :
    Za 1 (.ptr ec 0) (J xO er) H=some (.tuple [],H.set ec (.cells [J xO er]))/\Z3 false 1 (.ptr ec 0) (H.set ec (.cells [J xO er]))=some (J xO er)/\Zbp (.ptr ec 0) (.ptr sc 0)=some () /\
      Za 4 (.ptr sc 0) (.agg [J xO 0,J xO 0,J xO 0,J xO 0]) (H.set ec (.cells [J xO er]))=some (.tuple [],H.set ec (.cells [J xO er])) /\
      Za 1 (.ptr ec 0) (J xO er) (H.set ec (.cells [J xO er]))=some (.tuple [],H.set ec (.cells [J xO er])) /\
      (H.set ec (.cells [J xO er]))[sc]?=some (.cells [J xO 0,J xO 0,J xO 0,J xO 0])/\(H.set ec (.cells [J xO er]))[ec]?=some (.cells [J xO er]):=by
  have h1:=V9 he 0 (v:=J xO er) rfl rfl (by simp);have g1:=Zq (zD [xM .i64 er]) he;have g2:=Yd (zD [xM .i64 er]) hne hs;have h2:=V9 g1 0 (v:=J xO er) rfl rfl (by simp);have h3:=WT (off:=0) (sz:=4) (v:=.agg [J xO 0,J xO 0,J xO 0,J xO 0]) g2 rfl rfl (by simp);have e3:splice [xM .i64 0,J xO 0,J xO 0,J xO 0] 0 (AV.agg [J xO 0,J xO 0,J xO 0,J xO 0]).cells=[J xO 0,J xO 0,J xO 0,J xO 0]:=rfl;rw[e3,Ch g2]at h3;rw[show zM [xM .i64 er] 0 (J xO er)=[J xO er] from rfl,Ch g1]at h2;refine⟨h1,ZN g1 0 rfl,?_,h3,h2,g2,g1⟩;unfold Zbp
  have hb:Nat.beq ec sc=false:=by
    cases h:Nat.beq ec sc with
    |false=>rfl
    |true=>exact absurd (Nat.eq_of_beq_eq_true h) hne
  dsimp only;rw[hb];rfl
section
variable {o g t:Nat}{L:Loc}{lx cl e:AV}{p:Spec}{xp:AV}{B:List Fil}(hB:BOk B){lim:Nat}(hl:LocAV (.agg (L.cells lx cl e)) L)(hok:LocOk L)(hsm:LocSm L)(hs:SpecAV (.agg (p.cells xp)) p)(hks:∀ k∈p.keys,KeOk k)(hkl:p.keys.length<=1048576)
include hB hl hok hsm hs hks hkl
theorem Zn1 {w:Nat}(hw:2<=w)(hw2:w<=32){zc sc ec mc cc:Nat}(hes:ec≠sc/\ec≠mc/\ec≠cc){mem:Int}{b:Bool}{r0 y0:Int}{l:List Zl}(x35:AV)(H0:Hp):∀ (f:Nat) (a:PSt) (tm:Tmp) (s:Sto) (A S:List Nat) (H:Hp),a.O.length<=f->SInv L p r0 y0 l a ->
    XG B lim tm s a.P a.k->SysAt H o t tm s A->SrAt H g o A L lx cl e p xp a.O a.st S->FxAt H zc sc ec mc cc o mem (w:Int) b->(∀ x∈[zc,sc,ec,mc,cc],x∉S/\x∉A) ->
    ∃ H' A' tm' s',SysAt H' o t tm' s' A'/\Stp (ec::(S++A)) H H'/\(∀ x∈A',x∈A\/H.length<=x) /\
      ((∃ S',XO (.ptr zc 0) (.ptr sc 0) (.ptr ec 0) (.ptr mc 0) (.ptr cc 0) (.ptr g 0) x35 H0 H=Qz (.ptr sc 0) (.ptr ec 0) (.ptr mc 0) (.ptr cc 0) (.ptr g 0) x35 H0 H' /\
        SInv L p r0 y0 l (L6 L p w f a)/\XG B lim tm' s' (L6 L p w f a).P (L6 L p w f a).k/\SrAt H' g o A' L lx cl e p xp (L6 L p w f a).O (L6 L p w f a).st S'/\FxAt H' zc sc ec mc cc o mem (w:Int) b /\
        (∀ x∈[zc,sc,ec,mc,cc],x∉S'/\x∉A')/\(∀ x∈S',x∈S\/H.length<=x)) \/
       ∃ er,XO (.ptr zc 0) (.ptr sc 0) (.ptr ec 0) (.ptr mc 0) (.ptr cc 0) (.ptr g 0) x35 H0 H=XN .nils (.ptr sc 0) (.ptr ec 0) x35 H0 H'/\Bad B lim tm' s' er/\FxB H' sc ec mc cc o er b):=by
  intro f
  induction f with
  |zero =>
    intro a tm s A S H hf hI hX hsys hS hF hd;have hS':=hS;obtain⟨x,g1,g2,g3,g4,g5⟩:=hS;have l12:=ZN g1 12 (v:=x) rfl;have hal:=SS.len g2.ss 9;rw[zN]at hal;have l1:=ZN hF.z 1 (v:=J xO (w:Int)) rfl;have hlt:decide ((w:Int)<(a.O.length:Int))=false:=by rw[decide_eq_false_iff_not];omega
    refine⟨H,A,tm,s,hsys,Stp.refl _ _,fun x h=>.inl h,.inl ⟨S,?_,hI,hX,hS',hF,hd,fun x h=>.inl h⟩⟩;rw[QA];simp only[go_sem,zC,l12,hal,l1,hlt]
  |succ f ih =>
    intro a tm s A S H hf hI hX hsys hS hF hd;have hS':=hS;obtain⟨x,g1,g2,g3,g4,g5⟩:=hS;have l12:=ZN g1 12 (v:=x) rfl;have hal:=SS.len g2.ss 9;rw[zN]at hal;have l1:=ZN hF.z 1 (v:=J xO (w:Int)) rfl;by_cases hn:w<a.O.length
    · have hlt:decide ((w:Int)<(a.O.length:Int))=true:=by rw[decide_eq_true_eq];omega
      have hln:=hI.len;have hkk:=hI.kle;have hmm:=hI.m;obtain⟨H1,A1,tm1,s1,p2,p6,p7,pp⟩:=ZtC hB hl hok hsm hs hks hkl hw hw2 (by omega) hI.short hI.lines (by omega) ⟨by omega,by omega⟩ hI.perm hX hsys hS';have hFl:=hF.lt
      have hF1:=hF.stp p6 fun x hx h=>by
        rcases zE.1 h with h|h
        · exact (hd x hx).1 h
        · exact (hd x hx).2 h
      have hA1d:∀ x∈[zc,sc,ec,mc,cc],x∉A1:=fun x hx h=>by
        have:=hFl x hx;rcases p7 x h with h|h
        · exact (hd x hx).2 h
        · omega
      have b1:Stp (ec::(S++A)) H H1:=p6.mono fun x hx=>yF _ hx;rcases pp with ⟨S1,p1,p3,p4,p5,p8⟩|⟨er,p1,hbd⟩
      rotate_left
      · have he:=hbd.ne
        obtain⟨e1,e2,e3,e4,e5,e6,e7⟩:=Zmp hF1.s hF1.e hes.1 er;have t2:Stp [ec] H1 (H1.set ec (.cells [J xO er])):=Stp.set _ _ (by simp);have hm2:=t2.get hF1.m (by simpa using Ne.symm hes.2.1);have hc2:=t2.get hF1.c (by simpa using Ne.symm hes.2.2);have hsys2:=p2.stp t2 fun x hx h=>hA1d ec (by simp) (by rw[<-zL.1 h];exact hx);refine⟨H1.set ec (.cells [J xO er]),A1,tm1,s1,hsys2,b1.trans t2 (fun _ h=>h) fun x h=>.inl (by rw[zL.1 h];simp),p7,.inr ⟨er,?_,hbd,⟨e6,e7,hm2,hc2⟩⟩⟩;rw[QA];simp only[go_sem,zC,l12,hal,l1,hlt,Ma,p1,e1,e2,he,e3,e4,e5]
      have hd1:∀ x∈[zc,sc,ec,mc,cc],x∉S1/\x∉A1:=fun x hx=>by
        have:=hFl x hx;refine⟨fun h=>?_,fun h=>?_⟩
        · rcases p8 x h with h|h
          · exact (hd x hx).1 h
          · omega
        · rcases p7 x h with h|h
          · exact (hd x hx).2 h
          · omega
      have hI1:=PInv.sinv hw hI hn p4
      have hlen1:(Zet L p w a).O.length<=f:=by
        have:=p4.len;have hc:=Zm5 hw hn;show (YM L p w a.O (cnt w a.O.length) ⟨[],a.P,a.k,a.st⟩).O.length<=f;omega
      obtain⟨H',A',tm',s',m2,m6,m7,mm⟩:=ih (Zet L p w a) tm1 s1 A1 S1 H1 hlen1 hI1 p3 p2 p5 hF1 hd1;have hr:L6 L p w (f+1) a=L6 L p w f (Zet L p w a):=by simp only[L6,if_pos hn]
      rw[hr];have hl01:=p6.len;have e0:((0:Int) != 0)=false:=rfl;have le:=ZN hF1.e 0 (v:=J xO 0) rfl
      have hstep:XO (.ptr zc 0) (.ptr sc 0) (.ptr ec 0) (.ptr mc 0) (.ptr cc 0) (.ptr g 0) x35 H0 H=XO (.ptr zc 0) (.ptr sc 0) (.ptr ec 0) (.ptr mc 0) (.ptr cc 0) (.ptr g 0) x35 H0 H1:=by
        rw[QA];simp only[go_sem,zC,l12,hal,l1,hlt,Ma,p1,hF1.e0,le,e0]
      rw[hstep];refine⟨H',A',tm',s',m2,b1.trans m6 (fun _ h=>h) fun x h=>?_,fun x hx=>?_,mm.imp (fun⟨S',v1,v2,v3,v4,v5,v6,v7⟩=>⟨S',v1,v2,v3,v4,v5,v6,fun x hx=>?_⟩) id⟩
      · rcases zG.1 h with h|h
        · exact .inl (by simp[h])
        · rcases zE.1 h with h|h
          · exact (p8 x h).imp (fun h=>yF _ (zF _ h)) id
          · exact (p7 x h).imp (fun h=>yF _ (zH _ h)) id
      · rcases m7 x hx with h|h
        · exact p7 x h
        · exact .inr (by omega)
      · rcases v7 x hx with h|h
        · exact p8 x h
        · exact .inr (by omega)
    · have hlt:decide ((w:Int)<(a.O.length:Int))=false:=by rw[decide_eq_false_iff_not];omega
      have hr:L6 L p w (f+1) a=a:=by simp only[L6,if_neg hn]
      rw[hr];refine⟨H,A,tm,s,hsys,Stp.refl _ _,fun x h=>.inl h,.inl ⟨S,?_,hI,hX,hS',hF,hd,fun x h=>.inl h⟩⟩;rw[QA];simp only[go_sem,zC,l12,hal,l1,hlt]
end
end Go.Am
