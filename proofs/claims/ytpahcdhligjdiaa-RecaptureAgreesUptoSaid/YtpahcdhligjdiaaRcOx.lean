/-
  A tree whose sequences are in the reverse order; the sequence of some trees.
-/
import Derived.Test.YtpahcdhligjdiaaRcMx
import Derived.Test.YtpahcdhligjdiaaRcGRx
import Derived.Test.YtpahcdhligjdiaaRcQx
namespace Go.Am
set_option linter.unusedSimpArgs false
set_option linter.unusedVariables false
set_option maxRecDepth 100000

def ordL (h:Hd) (l:List Rt):List Rt:=if h.op=3 then l.reverse else l
theorem ordL_len (h:Hd) (l:List Rt):(ordL h l).length=l.length:=by unfold ordL;split <;> simp
theorem ordL_mem {h:Hd} {l:List Rt} {e:Rt}:e ∈ ordL h l ↔ e ∈ l:=by unfold ordL;split <;> simp
theorem ordL_map {f:Rt→Rt} (h:Hd) (l:List Rt):(ordL h l).map f=ordL h (l.map f):=by unfold ordL;split <;> simp
mutual
def revM:Rt→Rt
 | .mk h args=>.mk h (ordL h (revL args))
def revL:List Rt→List Rt
 | []=>[]
 | e :: l=>revM e :: revL l
end
theorem revL_eq:∀ l:List Rt,revL l=l.map revM
 | []=>rfl
 | e :: l=>by simp only [revL,List.map_cons,revL_eq l]
theorem revM_eq (h:Hd) (args:List Rt):revM (.mk h args)=.mk h ((ordL h args).map revM):=by rw [revM,revL_eq,ordL_map]
theorem dep_rev (e:Rt):dep (revM e)≤dep e:=by
 induction e using Rt.ind with
 | h hd args ih =>
  simp only [revM_eq,dep]
  refine Nat.succ_le_succ (depL_le fun x hx=>?_)
  obtain ⟨e,he,rfl⟩:=List.mem_map.1 hx
  exact Nat.le_trans (ih e (ordL_mem.1 he)) (dep_mem (ordL_mem.1 he))
theorem reversed_loop {A : List Rt} {x : AV} {l : List AV} (hx : SlC 9 x l) (hl : RtL A l) (ih : ∀ e ∈ A, Tells C_recapture_reversed revM e) (h : Hd) {o1 o2 o3 : Nat} (h13 : o1 ≠ o3) (hne : o2 ≠ o3) (hb : A.length ≤ 1000000) (H0 : Hp) :
    ∀ (k i:Nat) (acc c2:List AV) (y:AV) (Hc:Hp),A.length - i=k→i≤A.length→Hc[o1]?=some (.cells (reC h x))→Hc[o2]?=some (.cells c2)→c2.length=9→Hc[o3]?=some (.cells (reC h y))→Row Hc 9 y acc→RtL (((ordL h A).take i).map revM) acc →
    ∃ z H' acc',recapture_reversed_L1 (.ptr o1 0) (.ptr o2 0) (.ptr o3 0) (.int .i64 (A.length:Int)) (.int .i64 (i:Int)) H0 Hc=some (reV h z,H')∧Row H' 9 z acc'∧RtL ((ordL h A).map revM) acc':=by
 intro k
 induction k with
 | zero =>
  intro i acc c2 y Hc hk hi h1 h2 hc2 h3 hr ha
  have hlt:decide ((i:Int) < (A.length:Int))=false:=decide_eq_false (by omega)
  rw [List.take_of_length_le (by rw [ordL_len];omega)] at ha
  rw [recapture_reversed_L1_eq]
  simp only [go_sem,hlt,recapture_reversed_J1_eq,ld_re h3,st_re h y h2 hc2,ld_re (get_set_eq _ h2)]
  exact ⟨y,_,acc,rfl,hr.set h2,ha⟩
 | succ k ihk =>
  intro i acc c2 y Hc hk hi h1 h2 hc2 h3 hr ha
  have hL:i < A.length:=by omega
  have hLo:i < (ordL h A).length:=by rw [ordL_len];exact hL
  have hlt:decide ((i:Int) < (A.length:Int))=true:=decide_eq_true (by omega)
  -- the place of the operand
  have main:∀ (j:Nat) (e:Rt),A[j]?=some e→(ordL h A)[i]=e→∃ z H' acc',recapture_reversed_J4 (.ptr o1 0) (.ptr o2 0) (.ptr o3 0) (.int .i64 (j:Int)) (.int .i64 (A.length:Int)) (.int .i64 (i:Int)) H0 Hc=some (reV h z,H')∧Row H' 9 z acc'∧RtL ((ordL h A).map revM) acc':=by
   intro j e hj he
   obtain ⟨a,hla,hra⟩:=hl.get hj
   obtain ⟨y',hy',hcall⟩:=ih _ (List.mem_of_getElem? hj) a hra
   obtain ⟨xa,la,rfl,_,_⟩:=hra.out
   obtain ⟨xy,ly,rfl,_,_⟩:=hy'.out
   have hal:acc.length=i:=by rw [ha.1];simp;omega
   obtain ⟨y2,H2,r1,r2,r3,r4,r5⟩:=hr.app 88 (.vs 9 .clip [reV (revM e).hd xy]) [reV (revM e).hd xy] rfl (by simp;omega)
   have h3':=r4 o3 _ h3
   have h2':=r4 o2 _ h2
   have h1':=r4 o1 _ h1
   rw [recapture_reversed_J4_eq]
   simp only [go_sem,ld_args h3,ld_args h1,hx.idx hla,re_cells,aload_vp_re,hcall,one_re,r1,st_args h3' r2.known,recapture_reversed_J3_eq,wsucc (n:=i) (by omega)]
   refine ihk (i+1) (acc++[reV (revM e).hd xy]) c2 y2 _ (by omega) (by omega) (get_set_ne _ (Ne.symm h13) h1') (get_set_ne _ (Ne.symm hne) h2') hc2 (get_set_eq _ h3') (r2.set h3') ?_
   rw [List.take_succ_eq_append_getElem hLo,List.map_append,he]
   exact ha.snoc hy'
  rw [recapture_reversed_L1_eq]
  simp only [go_sem,hlt,recapture_reversed_J2_eq,ld_op h1]
  by_cases h3o:h.op=3
  ·have e3:(h.op == 3)=true:=by simp [h3o]
   have ea:(ordL h A)[i]=A[A.length - 1 - i]:=by simp only [ordL,h3o,if_true,List.getElem_reverse]
   simp only [e3,go_sem,ld_args h1,hx.len,hl.1]
   rw [wrap64 (n:=(A.length:Int) - 1) (by omega) (by omega),wrap64 (by omega) (by omega)]
   have hj:((A.length:Int) - 1 - (i:Int))=((A.length - 1 - i:Nat):Int):=by omega
   rw [hj]
   exact main _ _ (List.getElem?_eq_getElem (by omega)) ea
  ·have e3:(h.op == 3)=false:=by simp [h3o]
   simp only [e3,go_sem]
   exact main i _ (List.getElem?_eq_getElem hL) (by simp only [ordL,h3o,if_false])
theorem reversed_run (e:Rt) (hd:dep e≤190) (hz:siz e≤1000000):Tells C_recapture_reversed revM e:=by
 induction e using Rt.ind with
 | h hd' args ih =>
  intro a ha
  have hcl:=close1 ha hd
  obtain ⟨x,l,rfl,hx,hl⟩:=ha.out
  have hl:RtL args l:=hl
  have hsz:=len_siz args
  simp only [siz] at hz
  simp only [dep] at hd
  have hk:∀ e ∈ args,Tells C_recapture_reversed revM e:=fun e he=>by
   obtain ⟨i,hi⟩:=List.getElem?_of_mem he
   have h1:=dep_arg hi
   have h2:=siz_arg hi
   exact ih e he (by omega) (by omega)
  obtain ⟨z,H',acc',q1,q2,q3⟩:=reversed_loop (A:=args) hx hl hk hd' (o1:=0) (o2:=1) (o3:=2) (by omega) (by omega) (by omega) [] (args.length) 0 [] z9 .nils [.cells (reC hd' x),.cells z9,.cells (reC hd' .nils)] rfl (by omega) rfl rfl rfl rfl (.inl ⟨rfl,rfl⟩) (by simpa using RtL.nil)
  rw [revM_eq]
  refine flat_re hcl (H1:=H') (y:=z) ?_ (.inl q2) q3 (depL_le fun x hx=>?_)
  ·rw [F_recapture_reversed_eq]
   unfold F_recapture_reversed
   have g0:((([]:Hp)++[AObj.cells (reC hd' x)])++[AObj.cells [(.int .i64 0),(.int .u64 0),(.int .u64 0),(.int .u64 0),(.int .u64 0),(.int .i64 0),(.int .i64 0),(.int .i64 0),.nils]])[([]:Hp).length]?=some (.cells (reC hd' x)):=by simp
   simp only [Rt.hd,box_re,bnd_some,afield_ptr,ld_re g0,alloc_re]
   have g1:(((([]:Hp)++[AObj.cells (reC hd' x)])++[AObj.cells [(.int .i64 0),(.int .u64 0),(.int .u64 0),(.int .u64 0),(.int .u64 0),(.int .i64 0),(.int .i64 0),(.int .i64 0),.nils]])++[AObj.cells (reC hd' x)])[((([]:Hp)++[AObj.cells (reC hd' x)])++[AObj.cells [(.int .i64 0),(.int .u64 0),(.int .u64 0),(.int .u64 0),(.int .u64 0),(.int .i64 0),(.int .i64 0),(.int .i64 0),.nils]]).length]?=some (.cells (reC hd' x)):=by simp
   rw [st_args g1 ⟨rfl,rfl⟩]
   simp only [bnd_some]
   rw [ld_args (x:=x) (h:=hd') (by simp),bnd_some,hx.len,bnd_some]
   rw [hl.1]
   exact q1
  ·obtain ⟨e,he,rfl⟩:=List.mem_map.1 hx
   have h1:=dep_rev e
   have h2:=dep_mem (ordL_mem.1 he)
   omega
def opH (n:Int):Hd:={ zH with op:=n }
def joinM:List Rt→Rt
 | []=>.mk (opH 1) []
 | [e]=>e
 | l=>.mk (opH 3) l
theorem dep_join (l:List Rt):dep (joinM l)≤depL l+1:=by
 match l with
 | []=>simp [joinM,dep,depL]
 | [e]=>simp [joinM,depL]
 | e :: f :: l=>simp [joinM,dep]
theorem one_node (n:Int) (x:AV):((afill [(0,1,(.int .i64 n)),(8,1,x)] [(.int .i64 0),(.int .u64 0),(.int .u64 0),(.int .u64 0),(.int .u64 0),(.int .i64 0),(.int .i64 0),(.int .i64 0),.nils]).map AV.agg)=if x.known=true∧x.cells.length=1 then (match x.cells with | [c]=>some (reV (opH n) c) | _=>none) else none:=by
 have e0:afill [(0,1,(.int .i64 n)),(8,1,x)] [(.int .i64 0),(.int .u64 0),(.int .u64 0),(.int .u64 0),(.int .u64 0),(.int .i64 0),(.int .i64 0),(.int .i64 0),.nils]=afill [(8,1,x)] [(.int .i64 n),(.int .u64 0),(.int .u64 0),(.int .u64 0),(.int .u64 0),(.int .i64 0),(.int .i64 0),(.int .i64 0),.nils]:=rfl
 rw [e0]
 unfold afill
 by_cases h:x.known=true∧x.cells.length=1
 ·rw [if_pos h,if_pos ⟨h.1,h.2,by simp⟩]
  obtain ⟨c,hc⟩:=List.length_eq_one_iff.1 h.2
  rw [hc]
  rfl
 ·rw [if_neg h,if_neg (fun hh=>h ⟨hh.1,hh.2.1⟩)]
  rfl
theorem joined_run {A:List Rt} {x:AV} {l:List AV} (hx:SlC 9 x l) (hl:RtL A l) (hd:depL A≤180) (hb:A.length≤1000000):∃ y,RtC (joinM A) y∧∀ H,flatC C_recapture_joined [x] H=some (y,H):=by
 have hcl:[x].mapM (closeV [] 0 400)=some [x]:=mapM_self fun z hz=>by
  rw [List.mem_singleton.1 hz]
  refine close_sl hx fun a ha=>?_
  obtain ⟨i,hi⟩:=List.getElem?_of_mem ha
  have hil:i < A.length:=by rw [← hl.1];exact lt_of_get hi
  have:=dep_arg (List.getElem?_eq_getElem hil)
  exact (hl.2 i _ a (List.getElem?_eq_getElem hil) hi).close _ 0 _ (by omega)
 have hF:=F_recapture_joined_eq x []
 unfold F_recapture_joined at hF
 simp only [bnd_some,hx.len,hl.1,ibin_eql] at hF
 match A,hl,hd,hb with
 | [],hl,hd,hb =>
  have e0:(((([]:List Rt).length:Nat):Int) == 0)=true:=rfl
  have e1:((afill [(0,1,(.int .i64 1))] [(.int .i64 0),(.int .u64 0),(.int .u64 0),(.int .u64 0),(.int .u64 0),(.int .i64 0),(.int .i64 0),(.int .i64 0),.nils]).map AV.agg)=some (reV (opH 1) .nils):=rfl
  simp only [e0,cnd_t,e1,bnd_some,alloc_re,ld_re (get_push_len ([]:Hp) (AObj.cells (reC (opH 1) .nils)) [])] at hF
  have hr:RtC (joinM []) (reV (opH 1) .nils):=RtC.of (.inl ⟨rfl,rfl⟩) RtL.nil
  exact ⟨_,hr,flat_rt hcl hF hr (by simp [joinM,dep,depL])⟩
 | [e],hl,hd,hb =>
  have e0:((([e].length:Nat):Int) == 0)=false:=rfl
  have e1:((([e].length:Nat):Int) == 1)=true:=rfl
  obtain ⟨a,ha,hr⟩:=hl.get (i:=0) (e:=e) rfl
  obtain ⟨xa,la,rfl,_,_⟩:=hr.out
  have hix:=hx.idx ha
  simp only [Int.natCast_zero] at hix
  simp only [e0,e1,cnd_t,cnd_f,bnd_some,hix,re_cells,aload_vp_re,alloc_re,ld_re (get_push_len ([]:Hp) (AObj.cells (reC e.hd xa)) [])] at hF
  exact ⟨_,hr,flat_rt hcl hF hr (by simp only [depL] at hd;omega)⟩
 | e :: f :: A,hl,hd,hb =>
  have e0:((((e :: f :: A).length:Nat):Int) == 0)=false:=by simp;omega
  have e1:((((e :: f :: A).length:Nat):Int) == 1)=false:=by simp;omega
  obtain ⟨kc,kk⟩:=hx.known
  have e2:=one_node 3 x
  rw [if_pos ⟨kk,by rw [kc];rfl⟩,kc] at e2
  simp only [e0,e1,cnd_f,recapture_joined_J1_eq,e2,bnd_some,alloc_re,ld_re (get_push_len ([]:Hp) (AObj.cells (reC (opH 3) x)) [])] at hF
  have hr:RtC (joinM (e :: f :: A)) (reV (opH 3) x):=RtC.of hx hl
  refine ⟨_,hr,flat_rt hcl hF hr ?_⟩
  have:=dep_join (e :: f :: A)
  omega
end Go.Am
namespace Go.Am
set_option linter.unusedSimpArgs false
set_option linter.unusedVariables false
set_option maxRecDepth 100000

theorem flat_app (A B:List AV):flat (A++B)=flat A++flat B:=by simp [flat]
theorem flat_cons (a:AV) (B:List AV):flat (a :: B)=a.cells++flat B:=by simp [flat]
theorem flat_re_len (h:Hd) (x:AV) (n:Nat):(flat (List.replicate n (reV h x))).length=n * 9:=by
 rw [flat_length (k:=9) fun e he=>by rw [List.eq_of_mem_replicate he];rfl]
 simp
theorem chunks_re (h:Hd) (x:AV):∀ n,chunks true 9 n (flat (List.replicate n (reV h x)))=List.replicate n (reV h x)
 | 0=>rfl
 | n+1=>by
  have e1:(flat (List.replicate (n+1) (reV h x)))=reC h x++flat (List.replicate n (reV h x)):=by rw [List.replicate_succ,flat_cons];rfl
  rw [e1,chunks]
  have e2:(reC h x++flat (List.replicate n (reV h x))).take 9=reC h x:=rfl
  have e3:(reC h x++flat (List.replicate n (reV h x))).drop 9=flat (List.replicate n (reV h x)):=rfl
  rw [e2,e3,chunks_re h x n,List.replicate_succ]
  rfl
theorem splice_re (A B:List AV) (n:Nat) (hA:(flat A).length=n) (h:Hd) (x:AV) (z:AV) (hz:z.cells.length=9):splice (flat (A++z :: B)) n (reC h x)=flat (A++reV h x :: B):=by
 unfold splice
 rw [flat_app,flat_cons,flat_app,flat_cons,List.take_left' hA]
 have e:(flat A++(z.cells++flat B)).drop (n+(reC h x).length)=flat B:=by
  rw [← List.append_assoc]
  refine List.drop_left' ?_
  rw [List.length_append,hA,hz];rfl
 rw [e,List.append_assoc]
 rfl
def zV:AV:=.agg z9
theorem copies_loop (h : Hd) (x : AV) {p q : Nat} (hpq : p ≠ q) (n : Nat) (hn : n ≤ 100000) (H0 : Hp) : ∀ (k i : Nat) (Hc : Hp), n - i = k → i ≤ n → Hc[p]? = some (.cells (reC h x)) → Hc[q]? = some (.cells (flat (List.replicate i (reV h x) ++ List.replicate (n - i) zV))) →
    ∃ H',retree_copies_of_api_Re_L1 (.ptr p 0) (.rs true 9 q 0 n n) (.int .i64 (n:Int)) (.int .i64 (i:Int)) H0 Hc=some (.rs true 9 q 0 n n,H')∧H'[q]?=some (.cells (flat (List.replicate n (reV h x)))):=by
 intro k
 induction k with
 | zero =>
  intro i Hc hk hi hp hq
  have hlt:decide ((i:Int) < (n:Int))=false:=decide_eq_false (by omega)
  rw [retree_copies_of_api_Re_L1_eq]
  simp only [go_sem,hlt,retree_copies_of_api_Re_J1_eq]
  have:i=n:=by omega
  subst this
  exact ⟨_,rfl,by rw [hq];simp⟩
 | succ k ihk =>
  intro i Hc hk hi hp hq
  have hlt:decide ((i:Int) < (n:Int))=true:=decide_eq_true (by omega)
  have hix:aindexS 9 (.rs true 9 q 0 n n) (.int .i64 (i:Int))=some (.ptr q (0+i * 9)):=by
   unfold aindexS
   dsimp only
   rw [if_pos (by omega),Int.toNat_natCast]
  have hrep:List.replicate (n - i) zV=zV :: List.replicate (n - (i+1)) zV:=by
   rw [show n - i=(n - (i+1))+1 by omega,List.replicate_succ]
  rw [hrep] at hq
  have hlen:(flat (List.replicate i (reV h x)++zV :: List.replicate (n - (i+1)) zV)).length=n * 9:=by
   rw [flat_app,flat_cons,List.length_append,List.length_append,flat_re_len]
   have:(flat (List.replicate (n - (i+1)) zV)).length=(n - (i+1)) * 9:=by
    rw [flat_length (k:=9) fun e he=>by rw [List.eq_of_mem_replicate he];rfl]
    simp
   rw [this]
   have:zV.cells.length=9:=rfl
   omega
  have hst:astoreU 9 (.ptr q (0+i * 9)) (reV h x) Hc=some (.tuple [],Hc.set q (.cells (flat (List.replicate (i+1) (reV h x)++List.replicate (n - (i+1)) zV)))):=by
   rw [astore_of (sz:=9) (v:=reV h x) hq rfl rfl (by rw [hlen];omega),Nat.zero_add,re_cells,splice_re _ _ _ (flat_re_len h x i) h x zV rfl]
   rw [show List.replicate (i+1) (reV h x)++List.replicate (n - (i+1)) zV=List.replicate i (reV h x)++reV h x :: List.replicate (n - (i+1)) zV by rw [List.replicate_succ',List.append_assoc];rfl]
  obtain ⟨H',r1,r2⟩:=ihk (i+1) (Hc.set q (.cells (flat (List.replicate (i+1) (reV h x)++List.replicate (n - (i+1)) zV)))) (by omega) (by omega) (get_set_ne _ (Ne.symm hpq) hp) (get_set_eq _ hq)
  rw [retree_copies_of_api_Re_L1_eq]
  simp only [go_sem,hlt,retree_copies_of_api_Re_J2_eq,ld_re hp,hix,hst,retree_copies_of_api_Re_J3_eq,wsucc (n:=i) (by omega),r1]
  exact ⟨H',rfl,r2⟩
theorem closeN {e:Rt} {a:AV} (h:RtC e a) (hd:dep e≤190) (n m:Int):[a,.int .i64 n].mapM (closeV [] 0 400)=some [a,.int .i64 n]∧[a,.int .i64 n,.int .i64 m].mapM (closeV [] 0 400)=some [a,.int .i64 n,.int .i64 m]:=by
 have h1:=h.close [] 0 400 (by omega)
 refine ⟨mapM_self fun x hx=>?_,mapM_self fun x hx=>?_⟩
 ·simp at hx
  rcases hx with rfl | rfl
  ·exact h1
  ·rfl
 ·simp at hx
  rcases hx with rfl | rfl | rfl
  ·exact h1
  ·rfl
  ·rfl
theorem close_rs {H:Hp} {f k o n:Nat} {ag:Bool} {l l':List AV} (h1:elems k (.rs ag k o 0 n n) H=some l) (h2:l.mapM (closeV H 0 f)=some l'):closeV H 0 (f+1) (.rs ag k o 0 n n)=some (.vs k .clip l'):=by
 simp only [closeV,h1,h2,Nat.not_lt_zero,if_false,if_true]
theorem copies_clip {e:Rt} {a:AV} (ha:RtC e a) (hd:dep e≤190) (n:Nat) (hn:n≤100000):∃ y,(y=.nils∧List.replicate n a=[] ∨ y=.vs 9 .clip (List.replicate n a))∧∀ H,flatC C_retree_copies_of_api_Re [a,.int .i64 (n:Int)] H=some (y,H):=by
 have hcl:=(closeN ha hd (n:Int) 0).1
 have hac:=ha.close
 obtain ⟨x,l,rfl,hx,hl⟩:=ha.out
 have hz:(.agg [(.int .i64 0),(.int .u64 0),(.int .u64 0),(.int .u64 0),(.int .u64 0),(.int .i64 0),(.int .i64 0),(.int .i64 0),.nils]:AV)=zV:=rfl
 have hfit:fits n 88=true:=by simp [fits];omega
 rcases Nat.eq_zero_or_pos n with h0 | h0
 ·subst h0
  have hm:amake 9 88 true zV (.int .i64 ((0:Nat):Int)) (.int .i64 ((0:Nat):Int)) (([]:Hp)++[.cells (reC e.hd x)])=some (.vs 9 .clip [],(([]:Hp)++[.cells (reC e.hd x)])++[.tok 0]):=rfl
  have hlt:decide ((0:Int) < (([]:List AV).length:Int))=false:=rfl
  have hr:C_retree_copies_of_api_Re [reV e.hd x,.int .i64 ((0:Nat):Int)] []=some (.vs 9 .clip [],(([]:Hp)++[.cells (reC e.hd x)])++[.tok 0]):=by
   rw [F_retree_copies_of_api_Re_eq]
   unfold F_retree_copies_of_api_Re
   rw [hz,box_re,bnd_some,hm]
   simp only [bnd_some,alen_vs,retree_copies_of_api_Re_L1_eq,ibin_lss,hlt,cnd_f,retree_copies_of_api_Re_J1_eq]
  exact ⟨.vs 9 .clip [],.inr rfl,fun H=>flatC_cl hcl hr (close_sl (f:=399) (l:=[]) (.inr (.inr rfl)) (fun a ha=>by cases ha))⟩
 ·have hm : amake 9 88 true zV (.int .i64 (n : Int)) (.int .i64 (n : Int)) (([] : Hp) ++ [.cells (reC e.hd x)]) = some (.rs true 9 1 0 n n, [.cells (reC e.hd x), .cells (flat (List.replicate n zV))]) := by
     unfold amake
     dsimp only
     rw [if_pos ⟨by omega,by omega,rfl,rfl,by omega,by rw [Int.toNat_natCast];exact hfit⟩,if_neg (by omega),Int.toNat_natCast,flat_replicate]
     rfl
  obtain ⟨H',r1,r2⟩:=copies_loop e.hd x (p:=0) (q:=1) (by omega) n hn [] n 0 [.cells (reC e.hd x),.cells (flat (List.replicate n zV))] rfl (by omega) rfl (by simp)
  have hal:alenD (.slice 28) (.rs true 9 1 0 n n)=some (.int .i64 (n:Int)):=rfl
  have hr:C_retree_copies_of_api_Re [reV e.hd x,.int .i64 (n:Int)] []=some (.rs true 9 1 0 n n,H'):=by
   rw [F_retree_copies_of_api_Re_eq]
   unfold F_retree_copies_of_api_Re
   rw [hz,box_re,bnd_some,hm]
   simp only [bnd_some]
   rw [hal,bnd_some]
   exact r1
  have hel:elems 9 (.rs true 9 1 0 n n) H'=some (List.replicate n (reV e.hd x)):=by
   unfold elems
   simp only [r2,true_or,and_self,if_true]
   rw [if_pos (by rw [flat_re_len];omega),List.drop_zero,chunks_re]
  have hmm:(List.replicate n (reV e.hd x)).mapM (closeV H' 0 399)=some (List.replicate n (reV e.hd x)):=mapM_self fun b hb=>by
   rw [List.eq_of_mem_replicate hb]
   exact hac H' 0 399 (by omega)
  have hcv:closeV H' 0 400 (.rs true 9 1 0 n n)=some (.vs 9 .clip (List.replicate n (reV e.hd x))):=by
   exact close_rs (f:=399) hel hmm
  exact ⟨.vs 9 .clip (List.replicate n (reV e.hd x)),.inr rfl,fun H=>flatC_cl hcl hr hcv⟩
theorem copies_run {e:Rt} {a:AV} (ha:RtC e a) (hd:dep e≤190) (n:Nat) (hn:n≤100000):∃ y,SlC 9 y (List.replicate n a)∧∀ H,flatC C_retree_copies_of_api_Re [a,.int .i64 (n:Int)] H=some (y,H):=by
 obtain ⟨y,h1,h2⟩:=copies_clip ha hd n hn
 exact ⟨y,h1.imp id .inr,h2⟩
def rpHd (lo hi:Int):Hd:={ zH with op:=5,lo:=lo,hi:=hi }
def repM (x:Rt) (lo hi:Int):Rt:=.mk (rpHd lo hi) [x]
theorem SlC.one {e:Rt} {a:AV} (ha:RtC e a):SlC 9 (.vs 9 .clip [a]) [a]∧RtL [e] [a]:=⟨.inr (.inr rfl),by simpa using RtL.nil.snoc ha⟩
theorem rep_node (lo hi:Int) (x:AV) (hx:x.cells=[x]∧x.known=true):((afill [(0,1,(.int .i64 5)),(5,1,.int .i64 lo),(6,1,.int .i64 hi),(8,1,x)] [(.int .i64 0),(.int .u64 0),(.int .u64 0),(.int .u64 0),(.int .u64 0),(.int .i64 0),(.int .i64 0),(.int .i64 0),.nils]).map AV.agg)=some (reV (rpHd lo hi) x):=by
 have e0:afill [(0,1,(.int .i64 5)),(5,1,.int .i64 lo),(6,1,.int .i64 hi),(8,1,x)] [(.int .i64 0),(.int .u64 0),(.int .u64 0),(.int .u64 0),(.int .u64 0),(.int .i64 0),(.int .i64 0),(.int .i64 0),.nils]=afill [(8,1,x)] [(.int .i64 5),(.int .u64 0),(.int .u64 0),(.int .u64 0),(.int .u64 0),(.int .i64 lo),(.int .i64 hi),(.int .i64 0),.nils]:=rfl
 rw [e0]
 unfold afill
 rw [if_pos ⟨hx.2,by rw [hx.1];rfl,by simp⟩,hx.1]
 rfl
theorem repeat_run {e:Rt} {a:AV} (ha:RtC e a) (hd:dep e≤180) (lo hi:Int):∃ y,RtC (repM e lo hi) y∧∀ H,flatC C_retree_repeat [a,.int .i64 lo,.int .i64 hi] H=some (y,H):=by
 have hcl:=(closeN ha (by omega) lo hi).2
 obtain ⟨s1,s2⟩:=SlC.one ha
 obtain ⟨x,l,rfl,hx,hl⟩:=ha.out
 have hr:=F_retree_repeat_eq (reV e.hd x) (.int .i64 lo) (.int .i64 hi) []
 unfold F_retree_repeat at hr
 have g0:((([]:Hp)++[AObj.cells (reC e.hd x)])++[AObj.cells [(.int .i64 0),(.int .u64 0),(.int .u64 0),(.int .u64 0),(.int .u64 0),(.int .i64 0),(.int .i64 0),(.int .i64 0),.nils]])[([]:Hp).length]?=some (.cells (reC e.hd x)):=by simp
 simp only [box_re,bnd_some,ld_re g0,one_re,rep_node lo hi (.vs 9 .clip [reV e.hd x]) ⟨rfl,rfl⟩,alloc_re,ld_re (get_push_len (([]:Hp)++[AObj.cells (reC e.hd x)]) (AObj.cells (reC (rpHd lo hi) (.vs 9 .clip [reV e.hd x]))) [])] at hr
 exact ⟨_,RtC.of s1 s2,flat_rt hcl hr (RtC.of s1 s2) (by simp only [dep,depL];omega)⟩
def countedM (x:Rt) (lo hi:Int):Rt :=
 if simpleR lo hi then repM x lo hi else if hi=0 then .mk (opH 1) [] else if lo=1∧hi=1 then x else if hi=lo then .mk (opH 3) (List.replicate lo.toNat x)
 else if hi=-1 then .mk (opH 3) (List.replicate (lo - 1).toNat x++[repM x 1 (-1)]) else .mk (opH 3) (List.replicate lo.toNat x++List.replicate (hi - lo).toNat (repM x 0 1))
theorem dep_repl (e:Rt) (n:Nat):depL (List.replicate n e)≤dep e:=depL_le fun x hx=>by rw [List.eq_of_mem_replicate hx];exact Nat.le_refl _
theorem dep_repM (x:Rt) (lo hi:Int):dep (repM x lo hi)=dep x+1:=by simp [repM,dep,depL]
theorem dep_counted (x:Rt) (lo hi:Int):dep (countedM x lo hi)≤dep x+2:=by
 unfold countedM
 split
 ·rw [dep_repM];omega
 split
 ·simp [dep,depL]
 split
 ·omega
 split
 ·simp only [dep]
  have:=dep_repl x lo.toNat
  omega
 split
 ·simp only [dep,depL_app,depL]
  have:=dep_repl x (lo - 1).toNat
  have:=dep_repM x 1 (-1)
  omega
 ·simp only [dep,depL_app]
  have:=dep_repl x lo.toNat
  have:=dep_repl (repM x 0 1) (hi - lo).toNat
  have:=dep_repM x 0 1
  omega
theorem one_node' (n:Int) (x:AV) (hx:x.cells=[x]∧x.known=true):((afill [(0,1,(.int .i64 n)),(8,1,x)] [(.int .i64 0),(.int .u64 0),(.int .u64 0),(.int .u64 0),(.int .u64 0),(.int .i64 0),(.int .i64 0),(.int .i64 0),.nils]).map AV.agg)=some (reV (opH n) x):=by
 rw [one_node,if_pos ⟨hx.2,by rw [hx.1];rfl⟩,hx.1]
end Go.Am
namespace Go.Am
set_option linter.unusedSimpArgs false
set_option linter.unusedVariables false
set_option maxRecDepth 100000

def ElOk (ag:Bool) (k:Nat) (a:AV):Prop:=a.cells.length=k∧a.known=true∧if ag=true then a=.agg a.cells else k=1∧a.cells=[a]
def Rw (H:Hp) (ag:Bool) (k:Nat) (x:AV) (L:List AV):Prop:=(x=.nils∧L=[]) ∨ x=.vs k .clip L ∨ ∃ o e,x=.ws ag k o e L.length∧H[o]?=some (.row e (flat L))
def rowA:AV→List Nat
 | .ws _ _ o _ _=>[o]
 | _=>[]
theorem Rw.frame {H H':Hp} {ag:Bool} {k:Nat} {x:AV} {L:List AV} (h:Rw H ag k x L) (hf:∀ a ∈ rowA x,H'[a]?=H[a]?):Rw H' ag k x L :=
 h.imp id fun h=>h.imp id fun ⟨o,e,h1,h2⟩=>⟨o,e,h1,(hf o (by rw [h1];simp [rowA])).trans h2⟩
theorem Rw.lt {H:Hp} {ag:Bool} {k:Nat} {x:AV} {L:List AV} (h:Rw H ag k x L):∀ a ∈ rowA x,a < H.length:=by
 intro a ha
 rcases h with ⟨rfl,_⟩ | rfl | ⟨o,e,rfl,h2⟩
 ·cases ha
 ·cases ha
 ·rw [List.mem_singleton.1 ha];exact lt_of_get h2
theorem Rw.kept {H H':Hp} {ag:Bool} {k:Nat} {x:AV} {L:List AV} {W:List Nat} (h:Rw H ag k x L) (hk:Kpt W H H') (hn:∀ a ∈ rowA x,a ∉ W):Rw H' ag k x L :=
 h.frame fun a ha=>hk.2 a (h.lt a ha) (hn a ha)
theorem Rw.len {H:Hp} {ag:Bool} {k:Nat} {x:AV} {L:List AV} (h:Rw H ag k x L) (t:Nat):alenD (.slice t) x=some (.int .i64 (L.length:Int)):=by
 rcases h with ⟨rfl,rfl⟩ | rfl | ⟨o,e,rfl,_⟩ <;> rfl
theorem Rw.known {H:Hp} {ag:Bool} {k:Nat} {x:AV} {L:List AV} (h:Rw H ag k x L):x.cells=[x]∧x.known=true:=by
 rcases h with ⟨rfl,rfl⟩ | rfl | ⟨o,e,rfl,_⟩ <;> exact ⟨rfl,rfl⟩
theorem Rw.notrow {H:Hp} {ag:Bool} {k:Nat} {x:AV} {L:List AV} (h:Rw H ag k x L) {q:Nat} {c:List AV} (hq:H[q]?=some (.cells c)):q ∉ rowA x:=by
 rcases h with ⟨rfl,rfl⟩ | rfl | ⟨o,e,rfl,h2⟩
 ·simp [rowA]
 ·simp [rowA]
 ·intro hm
  rw [List.mem_singleton.1 hm,h2] at hq
  cases hq
theorem mid_of {α:Type} {L:List α} {i:Nat} {f:α} (h:L[i]?=some f):∃ A B,L=A++f :: B∧A.length=i:=by
 obtain ⟨hl,he⟩:=List.getElem?_eq_some_iff.1 h
 refine ⟨L.take i,L.drop (i+1),?_,by rw [List.length_take];omega⟩
 rw [← he,← List.drop_eq_getElem_cons hl,List.take_append_drop]
theorem flat_len_of {ag:Bool} {k:Nat} {L:List AV} (h:∀ a ∈ L,ElOk ag k a):(flat L).length=L.length * k:=flat_length fun e he=>(h e he).1
theorem apart_flat {ag:Bool} {k:Nat} {A B:List AV} {a:AV} (hk:0 < k) (hA:∀ b ∈ A,ElOk ag k b) (ha:ElOk ag k a):Go.Am.apart ag k (flat (A++a :: B)) (A.length * k)=some a:=by
 have hl:=flat_len_of hA
 rw [flat_app,flat_cons]
 obtain ⟨h1,h2,h3⟩:=ha
 unfold Go.Am.apart
 cases ag with
 | true =>
  simp only [if_true] at h3 ⊢
  rw [if_pos (by rw [List.length_append,List.length_append,hl,h1];omega),List.drop_left' hl,List.take_left' h1,← h3]
 | false =>
  simp only [Bool.false_eq_true,if_false] at h3 ⊢
  obtain ⟨rfl,h4⟩:=h3
  rw [List.getElem?_append_right (by rw [hl];omega),hl,h4]
  simp
theorem Rw.idx {H : Hp} {ag : Bool} {k : Nat} {x : AV} {L : List AV} (h : Rw H ag k x L) (hk : 0 < k) (hL : ∀ a ∈ L, ElOk ag k a) {i : Nat} {a : AV} (hi : L[i]? = some a) :
    ∃ p,aindexS k x (.int .i64 (i:Int))=some p∧aload ag k p H=some a:=by
 have hlt:=(List.getElem?_eq_some_iff.1 hi).1
 have ha:=hL a (List.mem_of_getElem? hi)
 rcases h with ⟨rfl,rfl⟩ | rfl | ⟨o,e,rfl,h2⟩
 ·simp at hi
 ·refine ⟨.vp a.cells,?_,?_⟩
  ·unfold aindexS
   dsimp only
   rw [if_pos ⟨rfl,by omega⟩,Int.toNat_natCast,hi]
  ·have:=apart_flat (ag:=ag) (k:=k) (A:=[]) (B:=[]) hk (by simp) ha
   simpa [aload,flat] using this
 ·obtain ⟨A,B,rfl,rfl⟩:=mid_of hi
  refine ⟨.wp o e (A.length * k),?_,?_⟩
  ·unfold aindexS
   dsimp only
   rw [if_pos (by omega),Int.toNat_natCast]
  ·unfold aload
   simp only [h2,if_true]
   exact apart_flat hk (fun b hb=>hL b (by simp [hb])) ha
theorem Rw.app {H : Hp} {ag : Bool} {k : Nat} {x : AV} {L : List AV} (h : Rw H ag k x L) (hL : ∀ a ∈ L, ElOk ag k a) {a : AV} (bytes : Nat) (hb : (L.length + 1) * (bytes + 1) ≤ 140737488355328) :
    ∃ x' H',aappEL ag k bytes x (.vs k .clip [a]) H=some (x',H')∧Rw H' ag k x' (L++[a])∧Kpt (rowA x) H H'∧(∀ q ∈ rowA x',q ∈ rowA x ∨ q=H.length)∧∃ o e,x'=.ws ag k o e (L.length+1):=by
 unfold aappEL
 have he:Go.Am.elems k (.vs k .clip [a]) H=some [a]:=by simp [elems]
 rw [he]
 dsimp only
 have hfit:fits (L.length+1) bytes=true:=by simpa [fits] using hb
 rcases h with ⟨rfl,rfl⟩ | rfl | ⟨o,e,rfl,ho⟩
 ·have hf1:fits 1 bytes=true:=by simpa using hfit
  refine ⟨.ws ag k H.length 0 1,H++[.row 0 (flat [a])],?_,.inr (.inr ⟨H.length,0,rfl,by simp⟩),Kpt.push _ _ _,fun q hq=>.inr (List.mem_singleton.1 hq),H.length,0,rfl⟩
  unfold aappL
  simp only [List.length_singleton,hf1,if_true]
  rw [if_neg (by simp)]
  rfl
 ·refine ⟨.ws ag k H.length 0 (L.length+1),H++[.row 0 (flat (L++[a]))],?_,.inr (.inr ⟨H.length,0,by simp,by simp⟩),Kpt.push _ _ _,fun q hq=>.inr (List.mem_singleton.1 hq),H.length,0,rfl⟩
  unfold aappL
  simp only [List.length_singleton,hfit,and_self,if_true]
  rw [if_neg (by simp)]
  rfl
 ·refine ⟨.ws ag k o (e+1) (L.length+1),H.set o (.row (e+1) (flat (L++[a]))),?_,.inr (.inr ⟨o,e+1,by simp,get_set_eq _ ho⟩),Kpt.set _ _ (by simp [rowA]),fun q hq=>.inl (by simpa [rowA] using hq),o,e+1,rfl⟩
  have hl:=flat_len_of hL
  unfold aappL
  simp only [List.length_singleton,hfit,and_self,if_true,ho,hl,Nat.le_refl,cutL_eq,List.take_of_length_le (Nat.le_of_eq hl)]
  rw [if_neg (by simp),flat_app]
  rfl
theorem Rw.sto {H : Hp} {k : Nat} {L : List AV} {o e : Nat} (h : H[o]? = some (.row e (flat L))) (hL : ∀ a ∈ L, ElOk true k a) {i : Nat} {cs : List AV} (hi : L[i]? = some (.agg cs)) {j : Nat} (hj : j < k) {v : AV} (hv : v.cells = [v] ∧ v.known = true) :
    aindexS k (.ws true k o e L.length) (.int .i64 (i:Int))=some (.wp o e (i * k))∧astoreU 1 (.wp o e (i * k+j)) v H=some (.tuple [],H.set o (.row e (flat (L.set i (.agg (cs.set j v)))))):=by
 have hlt:=(List.getElem?_eq_some_iff.1 hi).1
 refine ⟨?_,?_⟩
 ·unfold aindexS
  dsimp only
  rw [if_pos (by omega),Int.toNat_natCast]
 ·obtain ⟨A,B,rfl,rfl⟩:=mid_of hi
  have hA:=flat_len_of (L:=A) fun b hb=>hL b (by simp [hb])
  have hcs:cs.length=k:=(hL (.agg cs) (by simp)).1
  have hbl:=flat_len_of hL
  unfold astoreU astore
  simp only [h]
  have hcond:True∧v.known=true∧v.cells.length=1∧A.length * k+j+1≤(flat (A++AV.agg cs :: B)).length:=by
   refine ⟨trivial,hv.2,by rw [hv.1];rfl,?_⟩
   rw [hbl,List.length_append,List.length_cons,Nat.add_mul,Nat.add_mul]
   omega
  rw [if_pos hcond]
  have hset:(A++AV.agg cs :: B).set A.length (.agg (cs.set j v))=A++AV.agg (cs.set j v) :: B:=by simp
  rw [hset,flat_app,flat_cons,flat_app,flat_cons,hv.1]
  have hsp:splice (flat A++((AV.agg cs).cells++flat B)) (A.length * k+j) [v]=flat A++((AV.agg (cs.set j v)).cells++flat B):=by
   show splice (flat A++(cs++flat B)) (A.length * k+j) [v]=flat A++(cs.set j v++flat B)
   unfold splice
   have e1:(flat A++(cs++flat B)).take (A.length * k+j)=flat A++cs.take j:=by
    rw [← hA,List.take_length_add_append,List.take_append_of_le_length (by omega)]
   have e2:(flat A++(cs++flat B)).drop (A.length * k+j+[v].length)=cs.drop (j+1)++flat B:=by
    rw [← hA,List.length_singleton,Nat.add_assoc,List.drop_length_add_append,List.drop_append_of_le_length (by omega)]
   rw [e1,e2,List.set_eq_take_append_cons_drop,if_pos (by omega)]
   simp
  rw [hsp]
end Go.Am
namespace Go.Am
set_option linter.unusedSimpArgs false
set_option linter.unusedVariables false
set_option maxRecDepth 100000

theorem app_slc {y : AV} {l m : List AV} (hy : SlC 9 y l) (hc : y = .nils ∨ y = .vs 9 .clip l) {z : AV} (hz : ∀ H, elems 9 z H = some m) (hb : l.length + m.length ≤ 1000000) (H : Hp) (hm : m ≠ []) :
    ∃ x' H',aappE 9 88 y z H=some (x',H')∧(Row H' 9 x' (l++m))∧∀ (i:Nat) (o:AObj),H[i]?=some o→H'[i]?=some o:=by
 rcases hc with rfl | rfl
 ·have hl:l=[]:=by rcases hy with ⟨_,h⟩ | h | h <;> first | exact h | cases h
  subst hl
  have hr:Row H 9 .nils []:=.inl ⟨rfl,rfl⟩
  obtain ⟨x',H',r1,r2,r3,r4,r5⟩:=hr.app 88 z m (hz H) (by simp at hb ⊢;omega)
  exact ⟨x',H',r1,r2,fun i o h=>r5 i o (fun t e hx=>by cases hx) h⟩
 ·have hfit:fits (l.length+m.length) 88=true:=by simp [fits];omega
  refine ⟨.vs 9 (.own H.length (l.length+m.length)) (l++m),H++[.tok (l.length+m.length)],?_,.inr ⟨H.length,l.length+m.length,rfl,by simp⟩,fun i o h=>get_push h _⟩
  unfold aappE
  simp only [hz H]
  unfold aappend
  simp only [hfit,and_self,if_true]
  rw [if_neg hm]
theorem counted_run {e:Rt} {a:AV} (ha:RtC e a) (hd:dep e≤170) {lo hi:Int} (hl:0≤lo∧lo≤64∧(hi=-1 ∨ lo≤hi∧hi≤64)):∃ y,RtC (countedM e lo hi) y∧∀ H,flatC C_retree_counted [a,.int .i64 lo,.int .i64 hi] H=some (y,H):=by
 obtain ⟨l1,l2,l3⟩:=hl
 have hcl:=(closeN ha (by omega) lo hi).2
 have hb:∀ a b:Int,(a == b)=true ↔ a=b:=fun a b=>by simp
 have hf:∀ a b:Int,(a == b)=false ↔ ¬ a=b:=fun a b=>by simp
 have hdc:=dep_counted e lo hi
 have hrep:=fun lo hi=>repeat_run ha (by omega) lo hi
 have hcop:=fun n hn=>copies_run ha (by omega) n hn
 have ha0:=ha
 obtain ⟨x,l,rfl,hx,hl⟩:=ha.out
 -- the heap behind the two first steps
 obtain ⟨Hb,hHb⟩:∃ Hb:Hp,Hb=(([]:Hp)++[AObj.cells (reC e.hd x)])++[AObj.cells [(.int .i64 0),(.int .u64 0),(.int .u64 0),(.int .u64 0),(.int .u64 0),(.int .i64 0),(.int .i64 0),(.int .i64 0),.nils]]:=⟨_,rfl⟩
 have g0:Hb[([]:Hp).length]?=some (.cells (reC e.hd x)):=by rw [hHb];rfl
 have g1:Hb[(([]:Hp)++[AObj.cells (reC e.hd x)]).length]?=some (.cells z9):=by rw [hHb];rfl
 have hl0:([]:Hp).length=0:=rfl
 have hl1:(([]:Hp)++[AObj.cells (reC e.hd x)]).length=1:=rfl
 rw [hl0] at g0
 rw [hl1] at g1
 -- the end: a tree is put into the result
 have fin:∀ (Hc:Hp) (h:Hd) (y:AV),Hc[1]?=some (.cells z9)→∃ H1,(bnd (astoreU 9 (.ptr 1 0) (reV h y) Hc) fun r=>bnd (aload true 9 (.ptr 1 0) r.2) fun v=>some (v,r.2))=some (reV h y,H1)∧H1=Hc.set 1 (.cells (reC h y)):=by
  intro Hc h y hq
  refine ⟨_,?_,rfl⟩
  rw [st_re h y hq rfl,bnd_some,ld_re (get_set_eq _ hq),bnd_some]
 -- a result that is a tree that is closed
 have endT : ∀ (f : Rt) (h : Hd) (y : AV) (Hc : Hp), RtC f (reV h y) → dep f ≤ 190 → Hc[1]? = some (.cells z9) →
     F_retree_counted (reV e.hd x) (.int .i64 lo) (.int .i64 hi) []=(bnd (astoreU 9 (.ptr 1 0) (reV h y) Hc) fun r=>bnd (aload true 9 (.ptr 1 0) r.2) fun v=>some (v,r.2)) →
     ∃ z,RtC f z∧∀ H,flatC C_retree_counted [reV e.hd x,.int .i64 lo,.int .i64 hi] H=some (z,H):=by
  intro f h y Hc hr hdf hq hF
  obtain ⟨H1,q1,_⟩:=fin Hc h y hq
  exact ⟨_,hr,flat_rt hcl (by rw [F_retree_counted_eq,hF];exact q1) hr hdf⟩
 have endR : ∀ (A : List Rt) (L : List AV) (y : AV) (Hc : Hp), RtL A L → (Row Hc 9 y L ∨ SlC 9 y L) → depL A ≤ 180 → Hc[1]? = some (.cells z9) →
     F_retree_counted (reV e.hd x) (.int .i64 lo) (.int .i64 hi) []=(bnd (astoreU 9 (.ptr 1 0) (reV (opH 3) y) Hc) fun r=>bnd (aload true 9 (.ptr 1 0) r.2) fun v=>some (v,r.2)) →
     ∃ z,RtC (.mk (opH 3) A) z∧∀ H,flatC C_retree_counted [reV e.hd x,.int .i64 lo,.int .i64 hi] H=some (z,H):=by
  intro A L y Hc hr hy hdf hq hF
  obtain ⟨H1,q1,q2⟩:=fin Hc (opH 3) y hq
  refine flat_re hcl (H1:=H1) (by rw [F_retree_counted_eq,hF];exact q1) (hy.imp (fun h=>by rw [q2];exact h.set hq) id) hr (by omega)
 unfold countedM at hdc ⊢
 by_cases hs:simpleR lo hi
 ·rw [if_pos hs] at hdc ⊢
  obtain ⟨y,r1,r2⟩:=hrep lo hi
  obtain ⟨xy,ly,rfl,_,_⟩:=r1.out
  refine endT _ _ xy Hb r1 (by omega) g1 ?_
  unfold F_retree_counted
  rcases hs with ⟨c0,c2⟩ | ⟨c1,c3⟩
  ·have q0:=(hb lo 0).2 c0
   rcases c2 with c2 | c3
   ·have q2:=(hb hi 1).2 c2
    simp only [box_re,bnd_some,← hHb,hl0,hl1,go_sem,q0,q2,ld_re g0,r2]
   ·have q2:=(hf hi 1).2 (by omega)
    have q3:=(hb hi (-1)).2 c3
    simp only [box_re,bnd_some,← hHb,hl0,hl1,go_sem,q0,q2,q3,ld_re g0,r2]
  ·have q0:=(hf lo 0).2 (by omega)
   have q1:=(hb lo 1).2 c1
   have q3:=(hb hi (-1)).2 c3
   simp only [box_re,bnd_some,← hHb,hl0,hl1,go_sem,q0,q1,q3,ld_re g0,r2]
 ·rw [if_neg hs] at hdc ⊢
  have hs':=hs
  unfold simpleR at hs'
  by_cases c4:hi=0
  ·rw [if_pos c4] at hdc ⊢
   have e1:((afill [(0,1,(.int .i64 1))] [(.int .i64 0),(.int .u64 0),(.int .u64 0),(.int .u64 0),(.int .u64 0),(.int .i64 0),(.int .i64 0),(.int .i64 0),.nils]).map AV.agg)=some (reV (opH 1) .nils):=rfl
   have q0:=(hb lo 0).2 (by omega)
   have q1:=(hf lo 1).2 (by omega)
   have q2:=(hf hi 1).2 (by omega)
   have q3:=(hf hi (-1)).2 (by omega)
   have q4:=(hb hi 0).2 c4
   refine endT (.mk (opH 1) []) (opH 1) .nils Hb (RtC.of (.inl ⟨rfl,rfl⟩) RtL.nil) (by simp [dep,depL]) g1 ?_
   unfold F_retree_counted
   simp only [box_re,bnd_some,← hHb,hl0,hl1,go_sem,q0,q1,q2,q3,q4,e1]
  ·rw [if_neg c4] at hdc ⊢
   have q4:=(hf hi 0).2 c4
   by_cases c11:lo=1∧hi=1
   ·rw [if_pos c11] at hdc ⊢
    have q0:=(hf lo 0).2 (by omega)
    have q1:=(hb lo 1).2 c11.1
    have q2:=(hb hi 1).2 c11.2
    have q3:=(hf hi (-1)).2 (by omega)
    refine endT e e.hd x Hb ha0 (by omega) g1 ?_
    unfold F_retree_counted
    simp only [box_re,bnd_some,← hHb,hl0,hl1,go_sem,q0,q1,q2,q3,q4,ld_re g0]
   ·rw [if_neg c11] at hdc ⊢
    by_cases c5:hi=lo
    ·rw [if_pos c5] at hdc ⊢
     have q5:=(hb hi lo).2 c5
     have q3:=(hf hi (-1)).2 (by omega)
     have q0:=(hf lo 0).2 (by omega)
     have q1:=(hf lo 1).2 (by omega)
     obtain ⟨y,s1,s2⟩:=hcop lo.toNat (by omega)
     have hlo:((lo.toNat:Nat):Int)=lo:=by omega
     rw [hlo] at s2
     refine endR _ _ y Hb (RtL.rep ha0 _) (.inr s1) (by have:=dep_repl e lo.toNat;omega) g1 ?_
     unfold F_retree_counted
     simp only [box_re,bnd_some,← hHb,hl0,hl1,go_sem,q0,q1,q3,q4,q5,ld_re g0,s2,one_node' 3 y s1.known]
    ·rw [if_neg c5] at hdc ⊢
     have q5:=(hf hi lo).2 c5
     by_cases c3:hi=-1
     ·rw [if_pos c3] at hdc ⊢
      have q3:=(hb hi (-1)).2 c3
      have q0:=(hf lo 0).2 (by omega)
      have q1:=(hf lo 1).2 (by omega)
      obtain ⟨y,s1,s2⟩:=copies_clip ha0 (by omega) (lo - 1).toNat (by omega)
      have hlo:(((lo - 1).toNat:Nat):Int)=lo - 1:=by omega
      rw [hlo] at s2
      have s1':SlC 9 y (List.replicate (lo - 1).toNat (reV e.hd x)):=s1.imp id .inr
      obtain ⟨yr,r1,r2⟩:=hrep 1 (-1)
      obtain ⟨xr,lr,rfl,_,_⟩:=r1.out
      obtain ⟨x',H',p1,p2,p3⟩:=app_slc s1' (s1.imp And.left id) (z:=.vs 9 .clip [reV (repM e 1 (-1)).hd xr]) (m:=[reV (repM e 1 (-1)).hd xr]) (fun H=>rfl) (by simp;omega) Hb (by simp)
      refine endR _ _ x' H' ((RtL.rep ha0 _).snoc r1) (.inl p2) ?_ (p3 1 _ g1) ?_
      ·have:=dep_repl e (lo - 1).toNat
       have:=dep_repM e 1 (-1)
       simp only [depL_app,depL]
       omega
      ·unfold F_retree_counted
       simp only [box_re,bnd_some,← hHb,hl0,hl1,go_sem,q0,q1,q3,q4,q5,ld_re g0,wrap64 (n:=lo - 1) (by omega) (by omega),s2,r2,one_re,p1,one_node' 3 x' p2.known]
     ·rw [if_neg c3] at hdc ⊢
      have q3:=(hf hi (-1)).2 c3
      obtain ⟨y,s1,s2⟩:=copies_clip ha0 (by omega) lo.toNat (by omega)
      have hlo:((lo.toNat:Nat):Int)=lo:=by omega
      rw [hlo] at s2
      obtain ⟨yr,r1,r2⟩:=hrep 0 1
      have hdr:=dep_repM e 0 1
      obtain ⟨y2,u1,u2⟩:=copies_run r1 (by omega) (hi - lo).toNat (by omega)
      have hhl:(((hi - lo).toNat:Nat):Int)=hi - lo:=by omega
      rw [hhl] at u2
      have s1':SlC 9 y (List.replicate lo.toNat (reV e.hd x)):=s1.imp id .inr
      obtain ⟨x',H',p1,p2,p3⟩:=app_slc s1' (s1.imp And.left id) (z:=y2) (m:=List.replicate (hi - lo).toNat yr) (fun H=>u1.els H) (by simp;omega) Hb (by
       intro hh
       have:=congrArg List.length hh
       simp at this
       omega)
      refine endR _ _ x' H' ((RtL.rep ha0 _).app (RtL.rep r1 _)) (.inl p2) ?_ (p3 1 _ g1) ?_
      ·have:=dep_repl e lo.toNat
       have:=dep_repl (repM e 0 1) (hi - lo).toNat
       simp only [depL_app]
       omega
      ·unfold F_retree_counted
       have w:IntKind.i64.wrap (hi - lo)=hi - lo:=wrap64 (by omega) (by omega)
       by_cases c0:lo=0
       ·have q0:=(hb lo 0).2 c0
        have q1:=(hf lo 1).2 (by omega)
        have q2:=(hf hi 1).2 (by omega)
        simp only [box_re,bnd_some,← hHb,hl0,hl1,go_sem,q0,q1,q2,q3,q4,q5,retree_counted_J1_eq,ld_re g0,s2,r2,w,u2,p1,one_node' 3 x' p2.known]
       ·have q0:=(hf lo 0).2 c0
        by_cases c1:lo=1
        ·have q1:=(hb lo 1).2 c1
         have q2:=(hf hi 1).2 (by omega)
         simp only [box_re,bnd_some,← hHb,hl0,hl1,go_sem,q0,q1,q2,q3,q4,q5,retree_counted_J1_eq,ld_re g0,s2,r2,w,u2,p1,one_node' 3 x' p2.known]
        ·have q1:=(hf lo 1).2 c1
         simp only [box_re,bnd_some,← hHb,hl0,hl1,go_sem,q0,q1,q3,q4,q5,retree_counted_J1_eq,ld_re g0,s2,r2,w,u2,p1,one_node' 3 x' p2.known]
end Go.Am
namespace Go.Am
set_option linter.unusedSimpArgs false
set_option linter.unusedVariables false
set_option maxRecDepth 100000

mutual
def expM:Rt→Rt
 | .mk h args=>if h.op=5 then (if h.hi=0 then .mk (opH 1) [] else countedM ((expL args).headD (.mk h [])) h.lo h.hi) else .mk h (expL args)
def expL:List Rt→List Rt
 | []=>[]
 | e :: l=>expM e :: expL l
end
theorem expL_eq:∀ l:List Rt,expL l=l.map expM
 | []=>rfl
 | e :: l=>by simp only [expL,List.map_cons,expL_eq l]
theorem expM_eq (h:Hd) (args:List Rt):expM (.mk h args)=if h.op=5 then (if h.hi=0 then .mk (opH 1) [] else countedM ((args.map expM).headD (.mk h [])) h.lo h.hi) else .mk h (args.map expM):=by rw [expM,expL_eq]
theorem dep_eq (h:Hd) (args:List Rt):dep (.mk h args)=depL args+1:=by rw [dep]
theorem dep_exp (e:Rt):dep (expM e)≤3 * dep e:=by
 induction e using Rt.ind with
 | h hd args ih =>
  rw [expM_eq,dep_eq]
  have hl:∀ f ∈ args,dep (expM f)≤3 * depL args:=fun f hf=>by
   have h1:=ih f hf
   have h2:=dep_mem hf
   omega
  split
  ·split
   ·simp [dep,depL];omega
   ·cases args with
    | nil =>
     have:=dep_counted (.mk hd []) hd.lo hd.hi
     simp only [List.map_nil,List.headD_nil]
     have e1:dep (.mk hd [])=1:=by simp [dep,depL]
     omega
    | cons f l =>
     simp only [List.map_cons,List.headD_cons]
     have:=dep_counted (expM f) hd.lo hd.hi
     have:=hl f (by simp)
     omega
  ·rw [dep_eq]
   have:depL (args.map expM)≤3 * depL args:=depL_le fun x hx=>by
    obtain ⟨f,hf,rfl⟩:=List.mem_map.1 hx
    exact hl f hf
   omega
mutual
def wd:Rt→Nat
 | .mk _ args=>max args.length (wdL args)
def wdL:List Rt→Nat
 | []=>0
 | e :: l=>max (wd e) (wdL l)
end
theorem wd_eq (h:Hd) (args:List Rt):wd (.mk h args)=max args.length (wdL args):=by rw [wd]
theorem wdL_cons (e:Rt) (l:List Rt):wdL (e :: l)=max (wd e) (wdL l):=by rw [wdL]
theorem wdL_nil:wdL []=0:=by rw [wdL]
theorem wd_mem {e:Rt}:∀ {l:List Rt},e ∈ l→wd e≤wdL l
 | a :: l,h=>by
  rw [wdL_cons]
  rcases List.mem_cons.1 h with r | r
  ·rw [r];omega
  ·have:=wd_mem r;omega
theorem wdL_le {d:Nat}:∀ {l:List Rt},(∀ e ∈ l,wd e≤d)→wdL l≤d
 | [],_=>by rw [wdL_nil];omega
 | e :: l,h=>by
  have h1:=h e (by simp)
  have h2:=wdL_le (l:=l) fun x hx=>h x (by simp [hx])
  rw [wdL_cons];omega
theorem wd_siz (e:Rt):wd e≤siz e:=by
 induction e using Rt.ind with
 | h hd args ih =>
  rw [wd_eq]
  have h1:=len_siz args
  have h2:wdL args≤sizL args:=wdL_le fun x hx=>by
   obtain ⟨i,hi⟩:=List.getElem?_of_mem hx
   have:=siz_arg hi
   have:=ih x hx
   omega
  simp only [siz];omega
theorem wd_repM (x:Rt) (lo hi:Int):wd (repM x lo hi)≤max (wd x) 1:=by
 unfold repM
 rw [wd_eq,wdL_cons,wdL_nil]
 simp;omega
theorem wd_counted (x:Rt) {lo hi:Int} (hl:0≤lo∧lo≤64∧(hi=-1 ∨ lo≤hi∧hi≤64)):wd (countedM x lo hi)≤max (wd x) 130:=by
 obtain ⟨l1,l2,l3⟩:=hl
 unfold countedM
 have hr:=wd_repM x lo hi
 have hr1:=wd_repM x 1 (-1)
 have hr2:=wd_repM x 0 1
 have rep:∀ (n:Nat) (y:Rt),wdL (List.replicate n y)≤wd y:=fun n y=>wdL_le fun z hz=>by rw [List.eq_of_mem_replicate hz];exact Nat.le_refl _
 have happ:∀ (A B:List Rt),wdL (A++B)≤max (wdL A) (wdL B):=fun A B=>wdL_le fun z hz=>by
  rcases List.mem_append.1 hz with h | h
  ·have:=wd_mem h;omega
  ·have:=wd_mem h;omega
 split
 ·omega
 split
 ·rw [wd_eq,wdL_nil];simp
 split
 ·omega
 split
 ·rw [wd_eq,List.length_replicate]
  have:=rep lo.toNat x
  omega
 split
 ·rw [wd_eq,List.length_append,List.length_replicate]
  have:=rep (lo - 1).toNat x
  have:=happ (List.replicate (lo - 1).toNat x) [repM x 1 (-1)]
  rw [wdL_cons,wdL_nil] at this
  simp only [List.length_singleton]
  omega
 ·rw [wd_eq,List.length_append,List.length_replicate,List.length_replicate]
  have:=rep lo.toNat x
  have:=rep (hi - lo).toNat (repM x 0 1)
  have:=happ (List.replicate lo.toNat x) (List.replicate (hi - lo).toNat (repM x 0 1))
  omega
theorem wd_exp (e:Rt) (hr:rpM e=true):wd (expM e)≤max (wd e) 130:=by
 induction e using Rt.ind with
 | h hd args ih =>
  rw [rpM_eq,Bool.and_eq_true] at hr
  rw [expM_eq,wd_eq]
  have hl:∀ f ∈ args,wd (expM f)≤max (wdL args) 130:=fun f hf=>by
   have h1:=ih f hf (rpL_mem hr.2 f hf)
   have h2:=wd_mem hf
   omega
  split
  ·rename_i h5
   split
   ·rw [wd_eq,wdL_nil];simp
   ·have hb:=rp_bounds hr.1 h5
    cases args with
    | nil =>
     have:=wd_counted (.mk hd []) hb
     simp only [List.map_nil,List.headD_nil]
     have e1:wd (.mk hd [])=0:=by rw [wd_eq,wdL_nil];rfl
     omega
    | cons f l =>
     simp only [List.map_cons,List.headD_cons]
     have:=wd_counted (expM f) hb
     have:=hl f (by simp)
     omega
  ·rw [wd_eq,List.length_map]
   have:wdL (args.map expM)≤max (wdL args) 130:=wdL_le fun x hx=>by
    obtain ⟨f,hf,rfl⟩:=List.mem_map.1 hx
    exact hl f hf
   omega
theorem Row.idx {H:Hp} {k:Nat} {x:AV} {l:List AV} (h:Row H k x l) {i:Nat} {a:AV} (hi:l[i]?=some a):aindexS k x (.int .i64 (i:Int))=some (.vp a.cells):=by
 rcases h with ⟨rfl,rfl⟩ | ⟨t,e,rfl,_⟩
 ·simp at hi
 ·unfold aindexS
  dsimp only
  rw [if_pos ⟨rfl,by omega⟩,Int.toNat_natCast,hi]
theorem expand_loop {A : List Rt} {x : AV} {l : List AV} (hx : SlC 9 x l) (hl : RtL A l) (ih : ∀ e ∈ A, Tells C_retree_expand expM e) (h : Hd) {o1 o2 o3 : Nat} (h13 : o1 ≠ o3) (hne : o2 ≠ o3) (hb : A.length ≤ 1000000) (H0 : Hp) :
    ∀ (k i:Nat) (acc c2:List AV) (y:AV) (Hc:Hp),A.length - i=k→i≤A.length→Hc[o1]?=some (.cells (reC h x))→Hc[o2]?=some (.cells c2)→Hc[o3]?=some (.cells (reC h y))→Row Hc 9 y acc→RtL ((A.take i).map expM) acc →
    ∃ z H' acc',retree_expand_L1 (.ptr o1 0) (.ptr o2 0) (.ptr o3 0) x (.int .i64 (A.length:Int)) (.int .i64 (i:Int)) H0 Hc=retree_expand_J2 (.ptr o1 0) (.ptr o2 0) (.ptr o3 0) H0 H'∧Row H' 9 z acc'∧RtL (A.map expM) acc' ∧
     H'[o1]?=some (.cells (reC h x))∧H'[o2]?=some (.cells c2)∧H'[o3]?=some (.cells (reC h z)):=by
 intro k
 induction k with
 | zero =>
  intro i acc c2 y Hc hk hi h1 h2 h3 hr ha
  have hlt:decide ((i:Int) < (A.length:Int))=false:=decide_eq_false (by omega)
  rw [List.take_of_length_le (by omega)] at ha
  rw [retree_expand_L1_eq]
  simp only [go_sem,hlt]
  exact ⟨y,Hc,acc,rfl,hr,ha,h1,h2,h3⟩
 | succ k ihk =>
  intro i acc c2 y Hc hk hi h1 h2 h3 hr ha
  have hL:i < A.length:=by omega
  have hlt:decide ((i:Int) < (A.length:Int))=true:=decide_eq_true (by omega)
  have hAi:=List.getElem?_eq_getElem hL
  obtain ⟨a,hla,hra⟩:=hl.get hAi
  obtain ⟨y',hy',hcall⟩:=ih _ (List.getElem_mem hL) a hra
  obtain ⟨xa,la,rfl,_,_⟩:=hra.out
  obtain ⟨xy,ly,rfl,_,_⟩:=hy'.out
  have hal:acc.length=i:=by rw [ha.1];simp;omega
  have hr2:Row (Hc++[AObj.cells (reC A[i].hd xa)]) 9 y acc:=hr.mono fun i e h=>get_push h _
  obtain ⟨y2,H2,r1,r2,r3,r4,r5⟩:=hr2.app 88 (.vs 9 .clip [reV (expM A[i]).hd xy]) [reV (expM A[i]).hd xy] rfl (by simp;omega)
  have h3':=r4 o3 _ (get_push h3 [AObj.cells (reC A[i].hd xa)])
  have h2':=r4 o2 _ (get_push h2 [AObj.cells (reC A[i].hd xa)])
  have h1':=r4 o1 _ (get_push h1 [AObj.cells (reC A[i].hd xa)])
  rw [retree_expand_L1_eq]
  simp only [go_sem,hlt,retree_expand_J4_eq,hx.idx hla,re_cells,aload_vp_re,alloc_re,ld_args (get_push h3 [AObj.cells (reC A[i].hd xa)]),ld_re (get_push_len Hc (AObj.cells (reC A[i].hd xa)) []),hcall,one_re,r1,st_args h3' r2.known,
   retree_expand_J5_eq,wsucc (n:=i) (by omega)]
  refine ihk (i+1) (acc++[reV (expM A[i]).hd xy]) c2 y2 _ (by omega) (by omega) (get_set_ne _ (Ne.symm h13) h1') (get_set_ne _ (Ne.symm hne) h2') (get_set_eq _ h3') (r2.set h3') ?_
  rw [List.take_succ_eq_append_getElem hL,List.map_append]
  exact ha.snoc hy'
theorem expand_run (e:Rt) (hs:shM e=true) (hr:rpM e=true) (hd:dep e≤55) (hz:wd e≤1000000):Tells C_retree_expand expM e:=by
 induction e using Rt.ind with
 | h hd' args ih =>
  intro a ha
  have hcl:=close1 ha (by omega)
  obtain ⟨x,l,rfl,hx,hl⟩:=ha.out
  have hl:RtL args l:=hl
  obtain ⟨s1,s2⟩:=shM_args hs
  rw [rpM_eq,Bool.and_eq_true] at hr
  rw [wd_eq] at hz
  rw [dep_eq] at hd
  have hdx:=dep_exp (.mk hd' args)
  rw [dep_eq] at hdx
  have hk:∀ e ∈ args,Tells C_retree_expand expM e:=fun e he=>by
   have h1:=dep_mem he
   have h2:=wd_mem he
   exact ih e he (s2 e he) (rpL_mem hr.2 e he) (by omega) (by omega)
  have g0:((([]:Hp)++[AObj.cells (reC hd' x)])++[AObj.cells [(.int .i64 0),(.int .u64 0),(.int .u64 0),(.int .u64 0),(.int .u64 0),(.int .i64 0),(.int .i64 0),(.int .i64 0),.nils]])[([]:Hp).length]?=some (.cells (reC hd' x)):=by simp
  have g1:(((([]:Hp)++[AObj.cells (reC hd' x)])++[AObj.cells [(.int .i64 0),(.int .u64 0),(.int .u64 0),(.int .u64 0),(.int .u64 0),(.int .i64 0),(.int .i64 0),(.int .i64 0),.nils]])++[AObj.cells (reC hd' x)])[((([]:Hp)++[AObj.cells (reC hd' x)])++[AObj.cells [(.int .i64 0),(.int .u64 0),(.int .u64 0),(.int .u64 0),(.int .u64 0),(.int .i64 0),(.int .i64 0),(.int .i64 0),.nils]]).length]?=some (.cells (reC hd' x)):=by simp
  obtain ⟨z,H',acc',q1,q2,q3,q4,q5,q6⟩:=expand_loop hx hl hk hd' (o1:=0) (o2:=1) (o3:=2) (by omega) (by omega) (by omega) [] (args.length) 0 [] z9 .nils [.cells (reC hd' x),.cells z9,.cells (reC hd' .nils)] rfl (by omega) rfl rfl rfl (.inl ⟨rfl,rfl⟩) (by simpa using RtL.nil)
  rw [expM_eq] at hdx ⊢
  have hF:=F_retree_expand_eq (reV hd' x) []
  unfold F_retree_expand at hF
  by_cases h5:hd'.op=5
  ·rw [if_pos h5] at hdx ⊢
   have e5:(hd'.op == 5)=true:=by simp [h5]
   by_cases h0:hd'.hi=0
   ·rw [if_pos h0]
    have e0:(hd'.hi == 0)=true:=by simp [h0]
    have e1:((afill [(0,1,(.int .i64 1))] [(.int .i64 0),(.int .u64 0),(.int .u64 0),(.int .u64 0),(.int .u64 0),(.int .i64 0),(.int .i64 0),(.int .i64 0),.nils]).map AV.agg)=some (reV (opH 1) .nils):=rfl
    simp only [Rt.hd,box_re,go_sem,ld_op g0,e5,ld_hi g0,e0,e1,alloc_re,ld_re (get_push_len (([]:Hp)++[AObj.cells (reC hd' x)]) (AObj.cells (reC (opH 1) .nils)) [])] at hF
    have hrt:RtC (.mk (opH 1) []) (reV (opH 1) .nils):=RtC.of (.inl ⟨rfl,rfl⟩) RtL.nil
    exact ⟨_,hrt,flat_rt hcl hF hrt (by simp [dep,depL])⟩
   ·rw [if_neg h0] at hdx ⊢
    have e0:(hd'.hi == 0)=false:=by simp [h0]
    have h1:args.length=1:=sh_one s1 (.inl h5)
    obtain ⟨f,rfl⟩:=List.length_eq_one_iff.1 h1
    obtain ⟨af,hlf,hrf⟩:=q3.get (i:=0) (e:=expM f) rfl
    have hdf:=dep_exp f
    have hdl:dep f≤depL [f]:=dep_mem (by simp)
    obtain ⟨y,t1,t2⟩:=counted_run hrf (by omega) (rp_bounds hr.1 h5)
    obtain ⟨xf,lf,rfl,_,_⟩:=hrf.out
    obtain ⟨xy,ly,rfl,_,_⟩:=t1.out
    have hix:=q2.idx hlf
    simp only [Int.natCast_zero] at hix
    simp only [List.map_cons,List.map_nil,List.headD_cons] at hdx ⊢
    simp only [Rt.hd,box_re,go_sem,ld_op g0,e5,ld_hi g0,e0,retree_expand_J1_eq,ld_re g0,alloc_re] at hF
    rw [st_args g1 ⟨rfl,rfl⟩] at hF
    simp only [bnd_some] at hF
    rw [ld_args (x:=x) (h:=hd') (by simp),bnd_some,hx.len,bnd_some,hl.1] at hF
    have hF2:=hF.trans q1
    rw [retree_expand_J2_eq] at hF2
    simp only [go_sem,ld_op q4,e5,ld_args q6,hix,re_cells,aload_vp_re,ld_lo q4,ld_hi q4,t2,st_re _ _ q5 (show z9.length=9 from rfl),ld_re (get_set_eq _ q5)] at hF2
    refine ⟨_,t1,flat_rt hcl hF2 t1 (by omega)⟩
  ·rw [if_neg h5] at hdx ⊢
   have e5:(hd'.op == 5)=false:=by simp [h5]
   simp only [Rt.hd,box_re,go_sem,ld_op g0,e5,retree_expand_J1_eq,ld_re g0,alloc_re] at hF
   rw [st_args g1 ⟨rfl,rfl⟩] at hF
   simp only [bnd_some] at hF
   rw [ld_args (x:=x) (h:=hd') (by simp),bnd_some,hx.len,bnd_some,hl.1] at hF
   have hF2:=hF.trans q1
   rw [retree_expand_J2_eq] at hF2
   simp only [go_sem,ld_op q4,e5,retree_expand_J3_eq,ld_re q6,st_re _ _ q5 (show z9.length=9 from rfl),ld_re (get_set_eq _ q5)] at hF2
   rw [dep_eq] at hdx
   exact flat_re hcl hF2 (.inl (q2.set q5)) q3 (by omega)
theorem clone_loop {A : List Rt} {x : AV} {l : List AV} (hx : SlC 9 x l) (hl : RtL A l) (ih : ∀ e ∈ A, Tells C_retree_clone id e) (h : Hd) {o1 o2 : Nat} (hne : o1 ≠ o2) (hb : A.length ≤ 1000000) (H0 : Hp) :
    ∀ (k i:Nat) (acc c2:List AV) (y:AV) (Hc:Hp),A.length - i=k→i≤A.length→Hc[o1]?=some (.cells (reC h x))→Hc[o2]?=some (.cells c2)→c2.length=9→Row Hc 9 y acc→RtL (A.take i) acc →
    ∃ z H' acc',retree_clone_L1 (.ptr o1 0) (.ptr o2 0) y x (.int .i64 (A.length:Int)) (.int .i64 (i:Int)) H0 Hc=some (reV h z,H')∧Row H' 9 z acc'∧RtL A acc':=by
 intro k
 induction k with
 | zero =>
  intro i acc c2 y Hc hk hi h1 h2 hc2 hr ha
  have hlt:decide ((i:Int) < (A.length:Int))=false:=decide_eq_false (by omega)
  rw [List.take_of_length_le (by omega)] at ha
  have h2':=get_set_ne (.cells (reC h y)) hne h2
  rw [retree_clone_L1_eq]
  simp only [go_sem,hlt,retree_clone_J1_eq,st_args h1 hr.known,ld_re (get_set_eq _ h1),st_re h y h2' hc2,ld_re (get_set_eq _ h2')]
  exact ⟨y,_,acc,rfl,(hr.set h1).set h2',ha⟩
 | succ k ihk =>
  intro i acc c2 y Hc hk hi h1 h2 hc2 hr ha
  have hL:i < A.length:=by omega
  have hlt:decide ((i:Int) < (A.length:Int))=true:=decide_eq_true (by omega)
  obtain ⟨a,hla,hra⟩:=hl.get (List.getElem?_eq_getElem hL)
  obtain ⟨y',hy',hcall⟩:=ih _ (List.getElem_mem hL) a hra
  obtain ⟨xa,la,rfl,_,_⟩:=hra.out
  obtain ⟨xy,ly,rfl,_,_⟩:=hy'.out
  have hal:acc.length=i:=by rw [ha.1];simp;omega
  have hr2:Row (Hc++[AObj.cells (reC A[i].hd xa)]) 9 y acc:=hr.mono fun i e h=>get_push h _
  obtain ⟨y2,H2,r1,r2,r3,r4,r5⟩:=hr2.app 88 (.vs 9 .clip [reV (id A[i]).hd xy]) [reV (id A[i]).hd xy] rfl (by simp;omega)
  have h2':=r4 o2 _ (get_push h2 [AObj.cells (reC A[i].hd xa)])
  have h1':=r4 o1 _ (get_push h1 [AObj.cells (reC A[i].hd xa)])
  obtain ⟨z,H',acc',q1,q2,q3⟩:=ihk (i+1) (acc++[reV (id A[i]).hd xy]) c2 y2 H2 (by omega) (by omega) h1' h2' hc2 r2 (by
   rw [List.take_succ_eq_append_getElem hL]
   exact ha.snoc hy')
  rw [retree_clone_L1_eq]
  simp only [go_sem,hlt,retree_clone_J2_eq,hx.idx hla,re_cells,aload_vp_re,alloc_re,ld_re (get_push_len Hc (AObj.cells (reC A[i].hd xa)) []),hcall,one_re,r1,retree_clone_J3_eq,wsucc (n:=i) (by omega),q1]
  exact ⟨z,H',acc',rfl,q2,q3⟩
theorem clone_run (e:Rt) (hd:dep e≤190) (hz:wd e≤1000000):Tells C_retree_clone id e:=by
 induction e using Rt.ind with
 | h hd' args ih =>
  intro a ha
  have hcl:=close1 ha hd
  obtain ⟨x,l,rfl,hx,hl⟩:=ha.out
  have hl:RtL args l:=hl
  rw [wd_eq] at hz
  rw [dep_eq] at hd
  have hk:∀ e ∈ args,Tells C_retree_clone id e:=fun e he=>by
   have h1:=dep_mem he
   have h2:=wd_mem he
   exact ih e he (by omega) (by omega)
  have g0:((([]:Hp)++[AObj.cells (reC hd' x)])++[AObj.cells [(.int .i64 0),(.int .u64 0),(.int .u64 0),(.int .u64 0),(.int .u64 0),(.int .i64 0),(.int .i64 0),(.int .i64 0),.nils]])[([]:Hp).length]?=some (.cells (reC hd' x)):=by simp
  obtain ⟨z,H',acc',q1,q2,q3⟩:=clone_loop hx hl hk hd' (o1:=0) (o2:=1) (by omega) (by omega) [] (args.length) 0 [] z9 .nils [.cells (reC hd' x),.cells z9] rfl (by omega) rfl rfl rfl (.inl ⟨rfl,rfl⟩) (by simpa using RtL.nil)
  refine flat_re hcl (H1:=H') (y:=z) ?_ (.inl q2) q3 (by omega)
  rw [F_retree_clone_eq]
  unfold F_retree_clone
  simp only [Rt.hd,box_re,bnd_some,afield_ptr,ld_args g0,hx.len,hl.1]
  exact q1
def expR (e:Rt):Rt × Int:=if checkM e ≠ 0 then (.mk zH [],checkM e) else if 4096 < weighM e then (.mk zH [],3) else (expM e,0)
theorem close_tup {H:Hp} {f:Nat} {a a':AV} (h:closeV H 0 (f+1) a=some a') (n:Int):closeV H 0 (f+2) (.tuple [a,.int .i64 n])=some (.tuple [a',.int .i64 n]):=by
 rw [closeV]
 simp only [List.mapM_cons,List.mapM_nil,h,close_int]
 rfl
theorem Expand_run {e:Rt} {a:AV} (ha:RtC e a) (hd:dep e≤55) (hz:siz e≤1000000):∃ y,RtC (expR e).1 y∧∀ H,flatC C_retree_Expand [a] H=some (.tuple [y,.int .i64 (expR e).2],H):=by
 have hcl:=close1 ha (by omega)
 have hck:=check_run ha (by omega) hz
 have hF:=fun x=>F_retree_Expand_eq (reV e.hd x) []
 have ha0:=ha
 obtain ⟨x,l,rfl,hx,hl⟩:=ha.out
 have hF:=hF x
 unfold F_retree_Expand at hF
 have g0:((([]:Hp)++[AObj.cells (reC e.hd x)])++[AObj.cells [(.int .i64 0),(.int .u64 0),(.int .u64 0),(.int .u64 0),(.int .u64 0),(.int .i64 0),(.int .i64 0),(.int .i64 0),.nils]])[([]:Hp).length]?=some (.cells (reC e.hd x)):=by simp
 have ez:(.agg [(.int .i64 0),(.int .u64 0),(.int .u64 0),(.int .u64 0),(.int .u64 0),(.int .i64 0),(.int .i64 0),(.int .i64 0),.nils]:AV)=reV zH .nils:=rfl
 have hz0:RtC (.mk zH []) (reV zH .nils):=RtC.of (.inl ⟨rfl,rfl⟩) RtL.nil
 rw [ez] at hF
 simp only [box_re,go_sem,ld_re g0,hck] at hF
 unfold expR
 by_cases h0:checkM e=0
 ·have e0:(checkM e != 0)=false:=by simp [h0]
  rw [if_neg (by simpa using h0)]
  obtain ⟨k1,k2,k3,k4,_,_⟩:=check_ok h0
  have hw:=weigh_run e k2 (by omega) hz _ ha0
  simp only [e0,go_sem,retree_Expand_J1_eq,ld_re g0,hw] at hF
  by_cases h1:4096 < weighM e
  ·have e1:decide ((4096:Int) < weighM e)=true:=decide_eq_true h1
   rw [if_pos h1]
   rw [ez] at hF
   simp only [e1,go_sem,alloc_re,ld_re (get_push_len (([]:Hp)++[AObj.cells (reC e.hd x)]) (AObj.cells (reC zH .nils)) [])] at hF
   exact ⟨_,hz0,fun H=>flatC_cl hcl hF (close_tup (hz0.close _ 0 399 (by simp [dep,depL])) 3)⟩
  ·have e1:decide ((4096:Int) < weighM e)=false:=decide_eq_false h1
   rw [if_neg h1]
   have hws:=wd_siz e
   obtain ⟨y,r1,r2⟩:=expand_run e k1 k2 hd (by omega) _ ha0
   have hwx:=wd_exp e k2
   have hdx:=dep_exp e
   obtain ⟨y2,t1,t2⟩:=clone_run (expM e) (by omega) (by omega) _ r1
   have t1':RtC (expM e) y2:=t1
   obtain ⟨x2,l2,rfl,_,_⟩:=t1'.out
   simp only [e1,go_sem,retree_Expand_J2_eq,ld_re g0,r2,t2,alloc_re,ld_re (get_push_len (([]:Hp)++[AObj.cells (reC e.hd x)]) (AObj.cells (reC (expM e).hd x2)) [])] at hF
   exact ⟨_,t1',fun H=>flatC_cl hcl hF (close_tup (t1'.close _ 0 399 (by omega)) 0)⟩
 ·have e0:(checkM e != 0)=true:=by simp [h0]
  rw [if_pos h0]
  simp only [e0,go_sem,alloc_re,ld_re (get_push_len (([]:Hp)++[AObj.cells (reC e.hd x)]) (AObj.cells (reC zH .nils)) [])] at hF
  exact ⟨_,hz0,fun H=>flatC_cl hcl hF (close_tup (hz0.close _ 0 399 (by simp [dep,depL])) _)⟩
end Go.Am
namespace Go.Am
set_option linter.unusedSimpArgs false
set_option linter.unusedVariables false
set_option maxRecDepth 100000

structure In where
 op:Int
 b0:Int
 b1:Int
 b2:Int
 b3:Int
 x:Int
 y:Int
def inC (i:In):List AV:=[.int .i64 i.op,.int .u64 i.b0,.int .u64 i.b1,.int .u64 i.b2,.int .u64 i.b3,.int .i64 i.x,.int .i64 i.y]
def inV (i:In):AV:=.agg (inC i)
abbrev Bs:=List In × Bool
def addB (i:In) (s:Bs):Bs:=if 4096≤s.1.length then (s.1,true) else (s.1++[i],s.2)
def addK (s:Bs):Nat:=if 4096≤s.1.length then 0 else s.1.length
def setX (c:List In) (k:Nat) (v:Int):List In:=c.modify k fun i=>{ i with x:=v }
def setY (c:List In) (k:Nat) (v:Int):List In:=c.modify k fun i=>{ i with y:=v }
def opI (n:Int):In:=⟨n,0,0,0,0,0,0⟩
def splitB (s:Bs):Bs:=(setX (addB (opI 2) s).1 (addK s) (addK s+1:Nat),(addB (opI 2) s).2)
def patchB:List Nat→List In→List In
 | [],c=>c
 | k :: l,c=>patchB l (setX c k (c.length:Nat))
def setI (h:Hd):In:=⟨1,h.b0,h.b1,h.b2,h.b3,0,0⟩
mutual
def treeB:Rt→Bs→Bs
 | .mk h args,s=>if s.2=true then s else if h.op=2 then addB (setI h) s else if h.op=7 then addB (opI 4) s else if h.op=8 then addB (opI 5) s
  else if h.op=4 then altB args [] s
  else if h.op=5 then
   if h.lo=1 then
    let t:=headB args s
    (setY (addB { opI 2 with x:=s.1.length } t).1 (addK t) ((addK t+1:Nat):Int),(addB { opI 2 with x:=s.1.length } t).2)
   else
    let t:=headB args (splitB s)
    let u:=if h.hi < 0 then addB { opI 3 with x:=addK s } t else t
    (setY u.1 (addK s) (u.1.length:Nat),u.2)
  else seqB args s
def seqB:List Rt→Bs→Bs
 | [],s=>s
 | e :: l,s=>seqB l (treeB e s)
def headB:List Rt→Bs→Bs
 | [],s=>s
 | e :: _,s=>treeB e s
def altB:List Rt→List Nat→Bs→Bs
 | [],js,s=>(patchB js s.1,s.2)
 | e :: l,js,s=>match l with
  | []=>(patchB js (treeB e s).1,(treeB e s).2)
  | f :: m =>
   let t:=treeB e (splitB s)
   let u:=addB (opI 3) t
   altB (f :: m) (js++[addK t]) (setY u.1 (addK s) (u.1.length:Nat),u.2)
end
theorem setX_len (c:List In) (k:Nat) (v:Int):(setX c k v).length=c.length:=by simp [setX]
theorem setY_len (c:List In) (k:Nat) (v:Int):(setY c k v).length=c.length:=by simp [setY]
theorem addB_len (i:In) (s:Bs):s.1.length≤(addB i s).1.length:=by unfold addB;split <;> simp
theorem addK_lt (i:In) (s:Bs):addK s < (addB i s).1.length:=by
 unfold addK addB
 split
 ·simp only;omega
 ·simp
theorem splitB_len (s:Bs):s.1.length≤(splitB s).1.length:=by unfold splitB;rw [setX_len];exact addB_len _ _
theorem splitK_lt (s:Bs):addK s < (splitB s).1.length:=by unfold splitB;rw [setX_len];exact addK_lt _ _
theorem patchB_len:∀ (l:List Nat) (c:List In),(patchB l c).length=c.length
 | [],c=>rfl
 | k :: l,c=>by rw [patchB,patchB_len l,setX_len]
theorem inV_ok (i:In):ElOk true 7 (inV i):=⟨rfl,rfl,by rw [if_pos rfl];rfl⟩
theorem inL_ok (c:List In):∀ a ∈ c.map inV,ElOk true 7 a:=fun a ha=>by
 obtain ⟨i,_,rfl⟩:=List.mem_map.1 ha
 exact inV_ok i
def RwW (H:Hp) (ag:Bool) (k:Nat) (x:AV) (L:List AV):Prop:=(x=.nils∧L=[]) ∨ ∃ o e,x=.ws ag k o e L.length∧H[o]?=some (.row e (flat L))
theorem RwW.rw {H:Hp} {ag:Bool} {k:Nat} {x:AV} {L:List AV} (h:RwW H ag k x L):Rw H ag k x L:=h.imp id .inr
theorem RwW.kept {H H':Hp} {ag:Bool} {k:Nat} {x:AV} {L:List AV} {W:List Nat} (h:RwW H ag k x L) (hk:Kpt W H H') (hn:∀ a ∈ rowA x,a ∉ W):RwW H' ag k x L:=by
 have h2:=h.rw.kept hk hn
 rcases h with h | ⟨o,e,rfl,_⟩
 ·exact .inl h
 ·rcases h2 with ⟨h,_⟩ | h | h
  ·cases h
  ·cases h
  ·exact .inr h
theorem RwW.app {H : Hp} {ag : Bool} {k : Nat} {x : AV} {L : List AV} (h : RwW H ag k x L) (hL : ∀ a ∈ L, ElOk ag k a) {a : AV} (bytes : Nat) (hb : (L.length + 1) * (bytes + 1) ≤ 140737488355328) :
    ∃ x' H',aappEL ag k bytes x (.vs k .clip [a]) H=some (x',H')∧RwW H' ag k x' (L++[a])∧Kpt (rowA x) H H'∧(∀ q ∈ rowA x',q ∈ rowA x ∨ q=H.length):=by
 obtain ⟨x',H',h1,h2,h3,h4,o,e,rfl⟩:=h.rw.app hL bytes hb (a:=a)
 refine ⟨_,H',h1,?_,h3,h4⟩
 rcases h2 with ⟨h,_⟩ | h | h
 ·cases h
 ·cases h
 ·exact .inr h
structure BdAt (H:Hp) (o:Nat) (xv:AV) (s:Bs):Prop where
 obj:H[o]?=some (.cells [xv,.bool s.2])
 row:RwW H true 7 xv (s.1.map inV)
 le:s.1.length≤4096
theorem BdAt.no {H:Hp} {o:Nat} {xv:AV} {s:Bs} (h:BdAt H o xv s):o ∉ rowA xv:=h.row.rw.notrow h.obj
theorem BdAt.kept {H H':Hp} {o:Nat} {xv:AV} {s:Bs} {W:List Nat} (h:BdAt H o xv s) (hk:Kpt W H H') (h1:o ∉ W) (h2:∀ a ∈ rowA xv,a ∉ W):BdAt H' o xv s:=⟨hk.get h.obj h1,h.row.kept hk h2,h.le⟩
theorem BdAt.push {H:Hp} {o:Nat} {xv:AV} {s:Bs} (h:BdAt H o xv s) (l:Hp):BdAt (H++l) o xv s:=h.kept (Kpt.push [] H l) (by simp) (by simp)
def Fp (o:Nat) (H:Hp) (xv:AV) (H':Hp) (xv':AV):Prop:=Kpt (o :: rowA xv) H H'∧∀ q ∈ rowA xv',q ∈ rowA xv ∨ H.length≤q
theorem Fp.refl (o:Nat) (H:Hp) (xv:AV):Fp o H xv H xv:=⟨Kpt.refl _ _,fun q hq=>.inl hq⟩
theorem Fp.trans {o:Nat} {H H' H'':Hp} {x x' x'':AV} (h:Fp o H x H' x') (h':Fp o H' x' H'' x''):Fp o H x H'' x'':=by
 refine ⟨⟨Nat.le_trans h.1.1 h'.1.1,fun i hi hn=>(h'.1.2 i (Nat.lt_of_lt_of_le hi h.1.1) fun hm=>?_).trans (h.1.2 i hi hn)⟩,fun q hq=>?_⟩
 ·rcases List.mem_cons.1 hm with h1 | h1
  ·exact hn (by rw [h1];simp)
  ·rcases h.2 i h1 with h2 | h2
   ·exact hn (by simp [h2])
   ·omega
 ·rcases h'.2 q hq with h1 | h1
  ·exact h.2 q h1
  ·exact .inr (Nat.le_trans h.1.1 h1)
theorem Fp.push (o:Nat) (H:Hp) (xv:AV) (l:Hp):Fp o H xv (H++l) xv:=⟨Kpt.push _ _ _,fun q hq=>.inl hq⟩
section
variable {H:Hp} {o:Nat} {xv:AV} {s:Bs}
theorem BdAt.ld0 (h:BdAt H o xv s):aload false 1 (.ptr o (0+0)) H=some xv:=by rw [aload_of h.obj];rfl
theorem BdAt.ld1 (h:BdAt H o xv s):aload false 1 (.ptr o (0+1)) H=some (.bool s.2):=by rw [aload_of h.obj];rfl
theorem BdAt.len (h:BdAt H o xv s) (t:Nat):alenD (.slice t) xv=some (.int .i64 (s.1.length:Int)):=by rw [h.row.rw.len,List.length_map]
theorem BdAt.sto (h : BdAt H o xv s) {k j : Nat} (hk : k < s.1.length) (hj : j < 7) {v : AV} (hv : v.cells = [v] ∧ v.known = true) {c' : List In} (hc : (s.1.map inV).set k (.agg ((inC (s.1[k]'hk)).set j v)) = c'.map inV) :
    ∃ p pj H',aindexS 7 xv (.int .i64 (k:Int))=some p∧afield j p=some pj∧astoreU 1 pj v H=some (.tuple [],H')∧BdAt H' o xv (c',s.2)∧Fp o H xv H' xv:=by
 have hlen:c'.length=s.1.length:=by
  have:=congrArg List.length hc
  simpa using this.symm
 rcases h.row with ⟨_,h2⟩ | ⟨oo,e,hx,ho⟩
 ·rw [List.map_eq_nil_iff] at h2
  rw [h2] at hk;simp at hk
 ·obtain ⟨r1,r2⟩:=Rw.sto ho (inL_ok s.1) (i:=k) (cs:=inC s.1[k]) (by rw [List.getElem?_map,List.getElem?_eq_getElem hk];rfl) hj hv
  have hno:=h.no
  have hoo:oo ≠ o:=fun he=>hno (by rw [hx,he];simp [rowA])
  have hx':xv=.ws true 7 oo e (c'.map inV).length:=by rw [hx];simp [hlen]
  rw [← hx] at r1
  rw [hc] at r2
  refine ⟨_,_,_,r1,rfl,r2,⟨get_set_ne _ hoo h.obj,.inr ⟨oo,e,hx',get_set_eq _ ho⟩,by rw [hlen];exact h.le⟩,Kpt.set _ _ (by rw [hx];simp [rowA]),fun q hq=>.inl hq⟩
end
theorem map_modify_set {α β:Type} (f:α→β) (g:α→α):∀ (l:List α) (k:Nat) (hk:k < l.length),(l.map f).set k (f (g l[k]))=(l.modify k g).map f
 | [],k,hk=>by simp at hk
 | a :: l,0,hk=>by simp
 | a :: l,k+1,hk=>by simp [map_modify_set f g l k (by simpa using hk)]
theorem BdAt.setX {H : Hp} {o : Nat} {xv : AV} {s : Bs} (h : BdAt H o xv s) {k : Nat} (hk : k < s.1.length) (v : Int) :
    ∃ p pj H',aindexS 7 xv (.int .i64 (k:Int))=some p∧afield 5 p=some pj∧astoreU 1 pj (.int .i64 v) H=some (.tuple [],H')∧BdAt H' o xv (Go.Am.setX s.1 k v,s.2)∧Fp o H xv H' xv :=
 h.sto hk (by omega) ⟨rfl,rfl⟩ (map_modify_set inV (fun i=>{ i with x:=v }) s.1 k hk)
theorem BdAt.setY {H : Hp} {o : Nat} {xv : AV} {s : Bs} (h : BdAt H o xv s) {k : Nat} (hk : k < s.1.length) (v : Int) :
    ∃ p pj H',aindexS 7 xv (.int .i64 (k:Int))=some p∧afield 6 p=some pj∧astoreU 1 pj (.int .i64 v) H=some (.tuple [],H')∧BdAt H' o xv (Go.Am.setY s.1 k v,s.2)∧Fp o H xv H' xv :=
 h.sto hk (by omega) ⟨rfl,rfl⟩ (map_modify_set inV (fun i=>{ i with y:=v }) s.1 k hk)
theorem add_run (i : In) {H : Hp} {o : Nat} {xv : AV} {s : Bs} (h : BdAt H o xv s) :
    ∃ xv' H',C_reprog_builder_add [.ptr o 0,inV i] H=some (.int .i64 (addK s:Int),H')∧BdAt H' o xv' (addB i s)∧Fp o H xv H' xv':=by
 have h1:=h.push [AObj.cells (inC i)]
 have hb:abox (inV i) H=some (.ptr H.length 0,H++[AObj.cells (inC i)]):=rfl
 have hli:aload true 7 (.ptr H.length 0) (H++[AObj.cells (inC i)])=some (inV i):=by rw [aload_of (get_push_len H _ [])];rfl
 have e1:((setElems 7 [(0,inV i)] [(.agg [(.int .i64 0),(.int .u64 0),(.int .u64 0),(.int .u64 0),(.int .u64 0),(.int .i64 0),(.int .i64 0)])]).map (AV.vs 7 .clip))=some (.vs 7 .clip [inV i]):=rfl
 rw [F_reprog_builder_add_eq]
 unfold F_reprog_builder_add
 by_cases hc:4096≤s.1.length
 ·have hge:decide ((4096:Int)≤(s.1.length:Int))=true:=decide_eq_true (by omega)
  have hst:astoreU 1 (.ptr o (0+1)) (.bool true) (H++[AObj.cells (inC i)])=some (.tuple [],(H++[AObj.cells (inC i)]).set o (.cells [xv,.bool true])):=by
   rw [astore_of (sz:=1) (v:=.bool true) h1.obj rfl rfl (by simp)]
   rfl
  simp only [hb,go_sem,h1.ld0,h1.len,hge,hst]
  unfold addK addB
  rw [if_pos hc,if_pos hc]
  have hk:Kpt [o] (H++[AObj.cells (inC i)]) ((H++[AObj.cells (inC i)]).set o (.cells [xv,.bool true])):=Kpt.set _ _ (by simp)
  refine ⟨xv,_,rfl,⟨get_set_eq _ h1.obj,h1.row.kept hk fun a ha hm=>?_,h.le⟩,(Fp.push o H xv _).trans ⟨hk.weak (W':=o :: rowA xv) fun q hq _=>by simp at hq;simp [hq],fun q hq=>.inl hq⟩⟩
  rw [List.mem_singleton.1 hm] at ha
  exact h.no ha
 ·have hge:decide ((4096:Int)≤(s.1.length:Int))=false:=decide_eq_false (by omega)
  obtain ⟨x',H',r1,r2,r3,r4⟩:=h1.row.app (inL_ok s.1) (a:=inV i) 56 (by rw [List.length_map];have:=h.le;omega)
  have hno:o ∉ rowA xv:=h.no
  have hobj:=r3.get h1.obj hno
  have hst:astoreU 1 (.ptr o (0+0)) x' H'=some (.tuple [],H'.set o (.cells [x',.bool s.2])):=by
   obtain ⟨k1,k2⟩:=r2.rw.known
   rw [astore_of (sz:=1) (v:=x') hobj k2 (by rw [k1];rfl) (by simp),k1]
   rfl
  have hlast:aload false 1 (.ptr o (0+0)) (H'.set o (.cells [x',.bool s.2]))=some x':=by rw [aload_of (get_set_eq _ hobj)];rfl
  have hlen:alenD (.slice 76) x'=some (.int .i64 ((s.1.length+1:Nat):Int)):=by rw [r2.rw.len];simp
  have hw:IntKind.i64.wrap (((s.1.length+1:Nat):Int) - 1)=(s.1.length:Int):=by rw [wrap64 (by have:=h.le;omega) (by have:=h.le;omega)];omega
  simp only [hb,go_sem,h1.ld0,h1.len,hge,reprog_builder_add_J1_eq,hli,e1,r1,hst,hlast,hlen,hw]
  unfold addK addB
  rw [if_neg hc,if_neg hc]
  have hk:Kpt [o] H' (H'.set o (.cells [x',.bool s.2])):=Kpt.set _ _ (by simp)
  have hox:o ∉ rowA x':=fun hm=>by
   have hlt:=lt_of_get h.obj
   rcases r4 o hm with hq | hq
   ·exact hno hq
   ·rw [List.length_append] at hq;omega
  refine ⟨x',_,rfl,⟨get_set_eq _ hobj,?_,by simp;omega⟩,(Fp.push o H xv _).trans ⟨(r3.weak fun q hq _=>by simp [hq]).trans (hk.weak fun q hq _=>by simp at hq;simp [hq]),fun q hq=>(r4 q hq).imp id fun hq=>by omega⟩⟩
  rw [List.map_append]
  exact r2.kept hk fun a ha hm=>hox (by rw [List.mem_singleton.1 hm] at ha;exact ha)
theorem split_run {H : Hp} {o : Nat} {xv : AV} {s : Bs} (h : BdAt H o xv s) :
    ∃ xv' H',C_reprog_builder_split [.ptr o 0] H=some (.int .i64 (addK s:Int),H')∧BdAt H' o xv' (splitB s)∧Fp o H xv H' xv':=by
 obtain ⟨x1,H1,r1,r2,r3⟩:=add_run (opI 2) h
 have hk:=addK_lt (opI 2) s
 have hle:=r2.le
 obtain ⟨p,pj,H2,s1,s2,s3,s4,s5⟩:=r2.setX hk ((addK s+1:Nat):Int)
 have e1:((afill [(0,1,(.int .i64 2))] [(.int .i64 0),(.int .u64 0),(.int .u64 0),(.int .u64 0),(.int .u64 0),(.int .i64 0),(.int .i64 0)]).map AV.agg)=some (inV (opI 2)):=rfl
 rw [F_reprog_builder_split_eq]
 unfold F_reprog_builder_split
 simp only [e1,go_sem,r1,r2.ld0,wsucc (n:=addK s) (by omega),s1,s2,s3]
 exact ⟨x1,H2,rfl,s4,r3.trans s5⟩
end Go.Am
namespace Go.Am
set_option linter.unusedSimpArgs false
set_option linter.unusedVariables false
set_option maxRecDepth 100000

theorem treeB_eq (h : Hd) (args : List Rt) (s : Bs) : treeB (.mk h args) s = if s.2 = true then s else if h.op = 2 then addB (setI h) s else if h.op = 7 then addB (opI 4) s else if h.op = 8 then addB (opI 5) s
    else if h.op=4 then altB args [] s
    else if h.op=5 then
     if h.lo=1 then
      (setY (addB { opI 2 with x:=s.1.length } (headB args s)).1 (addK (headB args s)) ((addK (headB args s)+1:Nat):Int),(addB { opI 2 with x:=s.1.length } (headB args s)).2)
     else
      (setY (if h.hi < 0 then addB { opI 3 with x:=addK s } (headB args (splitB s)) else headB args (splitB s)).1 (addK s) ((if h.hi < 0 then addB { opI 3 with x:=addK s } (headB args (splitB s)) else headB args (splitB s)).1.length:Nat),
       (if h.hi < 0 then addB { opI 3 with x:=addK s } (headB args (splitB s)) else headB args (splitB s)).2)
    else seqB args s:=by rw [treeB]
theorem seqB_nil (s:Bs):seqB [] s=s:=by rw [seqB]
theorem seqB_cons (e:Rt) (l:List Rt) (s:Bs):seqB (e :: l) s=seqB l (treeB e s):=by rw [seqB]
theorem headB_cons (e:Rt) (l:List Rt) (s:Bs):headB (e :: l) s=treeB e s:=by rw [headB]
theorem altB_nil (js:List Nat) (s:Bs):altB [] js s=(patchB js s.1,s.2):=by rw [altB]
theorem altB_one (e:Rt) (js:List Nat) (s:Bs):altB [e] js s=(patchB js (treeB e s).1,(treeB e s).2):=by rw [altB]
theorem altB_cons (e f:Rt) (m:List Rt) (js:List Nat) (s:Bs):altB (e :: f :: m) js s=altB (f :: m) (js++[addK (treeB e (splitB s))]) (setY (addB (opI 3) (treeB e (splitB s))).1 (addK s) ((addB (opI 3) (treeB e (splitB s))).1.length:Nat),(addB (opI 3) (treeB e (splitB s))).2):=by rw [altB]
theorem altB_len {A:List Rt} (ih:∀ e ∈ A,∀ s:Bs,s.1.length≤(treeB e s).1.length):∀ (js:List Nat) (s:Bs),s.1.length≤(altB A js s).1.length:=by
 induction A with
 | nil=>intro js s;rw [altB_nil,patchB_len];exact Nat.le_refl _
 | cons e l ihl =>
  intro js s
  have h1:=ih e (by simp)
  cases l with
  | nil=>rw [altB_one,patchB_len];exact h1 s
  | cons f m =>
   rw [altB_cons]
   have h2:=ihl (fun x hx=>ih x (by simp [hx])) (js++[addK (treeB e (splitB s))]) (setY (addB (opI 3) (treeB e (splitB s))).1 (addK s) ((addB (opI 3) (treeB e (splitB s))).1.length:Nat),(addB (opI 3) (treeB e (splitB s))).2)
   rw [setY_len] at h2
   have h3:=h1 (splitB s)
   have h4:=splitB_len s
   have h5:=addB_len (opI 3) (treeB e (splitB s))
   omega
theorem treeB_len (e:Rt):∀ s:Bs,s.1.length≤(treeB e s).1.length:=by
 induction e using Rt.ind with
 | h hd args ih =>
  intro s
  have hh:∀ s:Bs,s.1.length≤(headB args s).1.length:=by
   intro s
   cases args with
   | nil=>rw [headB];exact Nat.le_refl _
   | cons e l=>rw [headB_cons];exact ih e (by simp) s
  have hs:∀ (l:List Rt),(∀ e ∈ l,∀ s:Bs,s.1.length≤(treeB e s).1.length)→∀ s:Bs,s.1.length≤(seqB l s).1.length:=by
   intro l
   induction l with
   | nil=>intro _ s;rw [seqB_nil];exact Nat.le_refl _
   | cons e l ihl =>
    intro h s
    rw [seqB_cons]
    exact Nat.le_trans (h e (by simp) s) (ihl (fun x hx=>h x (by simp [hx])) _)
  rw [treeB_eq]
  split
  ·exact Nat.le_refl _
  split
  ·exact addB_len _ _
  split
  ·exact addB_len _ _
  split
  ·exact addB_len _ _
  split
  ·exact altB_len ih _ _
  split
  ·split
   ·simp only [setY_len]
    exact Nat.le_trans (hh s) (addB_len _ _)
   ·simp only [setY_len]
    have h1:=splitB_len s
    have h2:=hh (splitB s)
    split
    ·exact Nat.le_trans h1 (Nat.le_trans h2 (addB_len _ _))
    ·exact Nat.le_trans h1 h2
  ·exact hs args ih s
mutual
def r1M:Rt→Bool
 | .mk h args=>(!(h.op == 5) || !args.isEmpty) && r1L args
def r1L:List Rt→Bool
 | []=>true
 | e :: l=>r1M e && r1L l
end
theorem r1M_eq (h:Hd) (args:List Rt):r1M (.mk h args)=((!(h.op == 5) || !args.isEmpty) && r1L args):=by rw [r1M]
theorem r1L_cons (e:Rt) (l:List Rt):r1L (e :: l)=(r1M e && r1L l):=by rw [r1L]
theorem r1L_nil:r1L []=true:=by rw [r1L]
theorem r1L_iff:∀ {l:List Rt},r1L l=true ↔ ∀ e ∈ l,r1M e=true
 | []=>by rw [r1L_nil];simp
 | e :: l=>by rw [r1L_cons,Bool.and_eq_true,r1L_iff (l:=l)];simp
theorem r1_repM {x:Rt} (h:r1M x=true) (lo hi:Int):r1M (repM x lo hi)=true:=by
 unfold repM
 rw [r1M_eq,r1L_cons,r1L_nil,h]
 simp
theorem r1_node {h:Hd} {A:List Rt} (h5:h.op ≠ 5) (hA:∀ e ∈ A,r1M e=true):r1M (.mk h A)=true:=by
 rw [r1M_eq,r1L_iff.2 hA]
 simp [h5]
theorem r1_counted {x:Rt} (h:r1M x=true) (lo hi:Int):r1M (countedM x lo hi)=true:=by
 have rep:∀ (n:Nat) (y:Rt),r1M y=true→∀ e ∈ List.replicate n y,r1M e=true:=fun n y hy e he=>by rw [List.eq_of_mem_replicate he];exact hy
 unfold countedM
 split
 ·exact r1_repM h _ _
 split
 ·exact r1_node (by decide) (by simp)
 split
 ·exact h
 split
 ·exact r1_node (by decide) (rep _ _ h)
 split
 ·refine r1_node (by decide) fun e he=>?_
  rcases List.mem_append.1 he with he | he
  ·exact rep _ _ h e he
  ·rw [List.mem_singleton.1 he];exact r1_repM h _ _
 ·refine r1_node (by decide) fun e he=>?_
  rcases List.mem_append.1 he with he | he
  ·exact rep _ _ h e he
  ·exact rep _ _ (r1_repM h _ _) e he
theorem r1_exp (e:Rt) (hs:shM e=true):r1M (expM e)=true:=by
 induction e using Rt.ind with
 | h hd args ih =>
  obtain ⟨s1,s2⟩:=shM_args hs
  rw [expM_eq]
  split
  ·rename_i h5
   split
   ·exact r1_node (by decide) (by simp)
   ·obtain ⟨f,rfl⟩:=List.length_eq_one_iff.1 (sh_one s1 (.inl h5))
    exact r1_counted (ih f (by simp) (s2 f (by simp))) _ _
  ·rename_i h5
   refine r1_node h5 fun e he=>?_
   obtain ⟨f,hf,rfl⟩:=List.mem_map.1 he
   exact ih f hf (s2 f hf)
def TreeRun (e:Rt):Prop:=∀ (a:AV) (H:Hp) (o:Nat) (xv:AV) (s:Bs),RtC e a→BdAt H o xv s →
 ∃ xv' H',C_reprog_builder_tree [.ptr o 0,a] H=some (.tuple [],H')∧BdAt H' o xv' (treeB e s)∧Fp o H xv H' xv'
theorem Fp.cell {o:Nat} {H H':Hp} {x x':AV} (h:Fp o H x H' x') {p:Nat} {c:AObj} (hp:H[p]?=some c) (h1:p ≠ o) (h2:p ∉ rowA x):H'[p]?=some c:=h.1.get hp (by simp [h1,h2])
theorem seq_loop {A : List Rt} {x : AV} {l : List AV} (hx : SlC 9 x l) (hl : RtL A l) (ih : ∀ e ∈ A, TreeRun e) {o : Nat} (hb : A.length ≤ 1000000) (H0 : Hp) :
    ∀ (k i:Nat) (s:Bs) (xv:AV) (Hc:Hp),A.length - i=k→i≤A.length→BdAt Hc o xv s →
    ∃ xv' H',reprog_builder_tree_L1 (.ptr o 0) x (.int .i64 (A.length:Int)) (.int .i64 (i:Int)) H0 Hc=some (.tuple [],H')∧BdAt H' o xv' (seqB (A.drop i) s)∧Fp o Hc xv H' xv':=by
 intro k
 induction k with
 | zero =>
  intro i s xv Hc hk hi hB
  have hlt:decide ((i:Int) < (A.length:Int))=false:=decide_eq_false (by omega)
  have hdr:A.drop i=[]:=List.drop_eq_nil_iff.2 (by omega)
  rw [reprog_builder_tree_L1_eq,hdr,seqB_nil]
  simp only [go_sem,hlt]
  exact ⟨xv,Hc,rfl,hB,Fp.refl _ _ _⟩
 | succ k ihk =>
  intro i s xv Hc hk hi hB
  have hL:i < A.length:=by omega
  have hlt:decide ((i:Int) < (A.length:Int))=true:=decide_eq_true (by omega)
  have hdr:=List.drop_eq_getElem_cons hL
  obtain ⟨a,hla,hra⟩:=hl.get (List.getElem?_eq_getElem hL)
  obtain ⟨xa,la,rfl,_,_⟩:=hra.out
  obtain ⟨x1,H1,r1,r2,r3⟩:=ih _ (List.getElem_mem hL) _ _ o xv s hra (hB.push [AObj.cells (reC A[i].hd xa)])
  obtain ⟨x2,H2,s1,s2,s3⟩:=ihk (i+1) _ x1 H1 (by omega) (by omega) r2
  rw [reprog_builder_tree_L1_eq,hdr,seqB_cons]
  simp only [go_sem,hlt,reprog_builder_tree_J2_eq,hx.idx hla,re_cells,aload_vp_re,alloc_re,ld_re (get_push_len Hc (AObj.cells (reC A[i].hd xa)) []),r1,reprog_builder_tree_J3_eq,wsucc (n:=i) (by omega),s1]
  exact ⟨x2,H2,rfl,s2,((Fp.push _ _ _ _).trans r3).trans s3⟩
def jV (js:List Nat):List AV:=js.map fun (k:Nat)=>AV.int .i64 (k:Int)
theorem jV_ok (js:List Nat):∀ a ∈ jV js,ElOk false 1 a:=fun a ha=>by
 obtain ⟨k,_,rfl⟩:=List.mem_map.1 ha
 exact ⟨rfl,rfl,rfl,rfl⟩
theorem jV_app (js:List Nat) (k:Nat):jV (js++[k])=jV js++[.int .i64 (k:Int)]:=by simp [jV]
theorem patch_loop {js : List Nat} {x4 : AV} {o : Nat} {Hb : Hp} {xb : AV} (hb : js.length ≤ 1000000) (H0 : Hp) :
    ∀ (k i:Nat) (s:Bs) (xv:AV) (Hc:Hp),js.length - i=k→i≤js.length→BdAt Hc o xv s→RwW Hc false 1 x4 (jV js)→(∀ q ∈ rowA x4,q ≠ o∧q ∉ rowA xv)→(∀ j ∈ js,j < s.1.length)→Fp o Hb xb Hc xv →
    ∃ xv' H',reprog_builder_alt_L1 (.ptr o 0) x4 (.int .i64 (js.length:Int)) (.int .i64 (i:Int)) H0 Hc=some (.tuple [],H')∧BdAt H' o xv' (patchB (js.drop i) s.1,s.2)∧Fp o Hb xb H' xv':=by
 intro k
 induction k with
 | zero =>
  intro i s xv Hc hk hi hB hj hd hjs hf
  have hlt:decide ((i:Int) < (js.length:Int))=false:=decide_eq_false (by omega)
  have hdr:js.drop i=[]:=List.drop_eq_nil_iff.2 (by omega)
  rw [reprog_builder_alt_L1_eq,hdr]
  simp only [go_sem,hlt]
  exact ⟨xv,Hc,rfl,hB,hf⟩
 | succ k ihk =>
  intro i s xv Hc hk hi hB hj hd hjs hf
  have hL:i < js.length:=by omega
  have hlt:decide ((i:Int) < (js.length:Int))=true:=decide_eq_true (by omega)
  have hdr:=List.drop_eq_getElem_cons hL
  obtain ⟨p,q1,q2⟩:=hj.rw.idx (by omega) (jV_ok js) (i:=i) (a:=.int .i64 (js[i]:Int)) (by simp [jV,List.getElem?_eq_getElem hL])
  obtain ⟨p2,pj,H2,s1,s2,s3,s4,s5⟩:=hB.setX (hjs _ (List.getElem_mem hL)) (s.1.length:Int)
  have hle:=hB.le
  have hj2:RwW H2 false 1 x4 (jV js):=hj.kept s5.1 fun a ha hm=>by
   rcases List.mem_cons.1 hm with h | h
   ·exact (hd a ha).1 h
   ·exact (hd a ha).2 h
  obtain ⟨x3,H3,t1,t2,t3⟩:=ihk (i+1) (setX s.1 js[i] (s.1.length:Int),s.2) xv H2 (by omega) (by omega) s4 hj2 hd (fun j hj=>by rw [setX_len];exact hjs j hj) (hf.trans s5)
  rw [reprog_builder_alt_L1_eq,hdr,patchB]
  simp only [go_sem,hlt,reprog_builder_alt_J2_eq,q1,q2,hB.ld0,hB.len,s1,s2,s3,reprog_builder_alt_J3_eq,wsucc (n:=i) (by omega),t1]
  exact ⟨x3,H3,rfl,t2,t3⟩
theorem alt_loop {A : List Rt} {x : AV} {l : List AV} (hx : SlC 9 x l) (hl : RtL A l) (ih : ∀ e ∈ A, TreeRun e) {o : Nat} {Hb : Hp} {xb : AV} (hb : A.length ≤ 1000) (hob : o < Hb.length) (H0 : Hp) :
    ∀ (k i:Nat) (s:Bs) (js:List Nat) (x4 xv:AV) (Hc:Hp),A.length - i=k→i≤A.length→BdAt Hc o xv s→RwW Hc false 1 x4 (jV js)→(∀ q ∈ rowA x4,q ∉ rowA xv∧Hb.length≤q)→(∀ j ∈ js,j < s.1.length)→js.length≤i→Fp o Hb xb Hc xv →
    ∃ xv' H',reprog_builder_alt_L2 (.ptr o 0) x x4 x (.int .i64 (A.length:Int)) (.int .i64 (i:Int)) H0 Hc=some (.tuple [],H')∧BdAt H' o xv' (altB (A.drop i) js s)∧Fp o Hb xb H' xv':=by
 intro k
 induction k with
 | zero =>
  intro i s js x4 xv Hc hk hi hB hj hd hjs hjl hf
  have hlt:decide ((i:Int) < (A.length:Int))=false:=decide_eq_false (by omega)
  have hdr:A.drop i=[]:=List.drop_eq_nil_iff.2 (by omega)
  obtain ⟨x2,H2,r1,r2,r3⟩:=patch_loop (js:=js) (x4:=x4) (by omega) H0 js.length 0 s xv Hc rfl (by omega) hB hj (fun q hq=>⟨by have:=(hd q hq).2;omega,(hd q hq).1⟩) hjs hf
  rw [reprog_builder_alt_L2_eq,hdr,altB_nil]
  have hjlen:alenD (.slice 3) x4=some (.int .i64 (js.length:Int)):=by rw [hj.rw.len];simp [jV]
  have i0:(((0:Nat):Int))=0:=rfl
  rw [i0] at r1
  simp only [go_sem,hlt,reprog_builder_alt_J1_eq,hjlen,r1]
  exact ⟨x2,H2,rfl,r2,r3⟩
 | succ k ihk =>
  intro i s js x4 xv Hc hk hi hB hj hd hjs hjl hf
  have hL:i < A.length:=by omega
  have hlt:decide ((i:Int) < (A.length:Int))=true:=decide_eq_true (by omega)
  have hdr:=List.drop_eq_getElem_cons hL
  obtain ⟨a,hla,hra⟩:=hl.get (List.getElem?_eq_getElem hL)
  have hrun:=ih _ (List.getElem_mem hL)
  obtain ⟨xa,la,rfl,_,_⟩:=hra.out
  have hB1:=hB.push [AObj.cells (reC A[i].hd xa)]
  have hj1:RwW (Hc++[AObj.cells (reC A[i].hd xa)]) false 1 x4 (jV js):=hj.kept (Kpt.push [] _ _) (by simp)
  have hp0:=get_push_len Hc (AObj.cells (reC A[i].hd xa)) []
  have hf1:Fp o Hb xb (Hc++[AObj.cells (reC A[i].hd xa)]) xv:=hf.trans (Fp.push _ _ _ _)
  have hwl:IntKind.i64.wrap ((A.length:Int) - 1)=(A.length:Int) - 1:=wrap64 (by omega) (by omega)
  have i0:(((0:Nat):Int))=0:=rfl
  -- the jumps stay where they are
  have keepJ:∀ {H H':Hp} {y y':AV},RwW H false 1 x4 (jV js)→(∀ q ∈ rowA x4,q ∉ rowA y∧Hb.length≤q)→Fp o H y H' y'→RwW H' false 1 x4 (jV js)∧(∀ q ∈ rowA x4,q ∉ rowA y'∧Hb.length≤q):=by
   intro H H' y y' h1 h2 h3
   refine ⟨h1.kept h3.1 fun a ha hm=>?_,fun q hq=>⟨fun hm=>?_,(h2 q hq).2⟩⟩
   ·rcases List.mem_cons.1 hm with h | h
    ·have:=(h2 a ha).2;omega
    ·exact (h2 a ha).1 h
   ·rcases h3.2 q hm with h | h
    ·exact (h2 q hq).1 h
    ·have:=h1.rw.lt q hq;omega
  rw [reprog_builder_alt_L2_eq,hdr]
  by_cases hlast:i+1=A.length
  ·have he:((i:Int) == (A.length:Int) - 1)=true:=by simp;omega
   have hnil:A.drop (i+1)=[]:=List.drop_eq_nil_iff.2 (by omega)
   rw [hnil,altB_one]
   obtain ⟨x1,H1,r1,r2,r3⟩:=hrun _ _ o xv s hra hB1
   obtain ⟨j1,j2⟩:=keepJ hj1 hd r3
   obtain ⟨x2,H2,t1,t2,t3⟩:=patch_loop (js:=js) (x4:=x4) (by omega) H0 js.length 0 _ x1 H1 rfl (by omega) r2 j1 (fun q hq=>⟨by have:=(j2 q hq).2;omega,(j2 q hq).1⟩) (fun j hj=>Nat.lt_of_lt_of_le (hjs j hj) (treeB_len _ _)) (hf1.trans r3)
   have hjlen:alenD (.slice 3) x4=some (.int .i64 (js.length:Int)):=by rw [hj.rw.len];simp [jV]
   rw [i0] at t1
   simp only [go_sem,hlt,reprog_builder_alt_J4_eq,hx.idx hla,re_cells,aload_vp_re,alloc_re,hx.len,hl.1,hwl,he,ld_re hp0,r1,reprog_builder_alt_J1_eq,hjlen,t1]
   exact ⟨x2,H2,rfl,t2,t3⟩
  ·have he:((i:Int) == (A.length:Int) - 1)=false:=by simp;omega
   obtain ⟨f,m,hfm⟩:∃ f m,A.drop (i+1)=f :: m:=⟨_,_,List.drop_eq_getElem_cons (by omega)⟩
   rw [hfm,altB_cons]
   have hpo:Hc.length ≠ o:=by have:=lt_of_get hB.obj;omega
   have hpx:Hc.length ∉ rowA xv:=fun hm=>by have:=hB.row.rw.lt _ hm;omega
   obtain ⟨x1,H1,r1,r2,r3⟩:=split_run hB1
   obtain ⟨j1,j2⟩:=keepJ hj1 hd r3
   have hp1:=r3.cell hp0 hpo hpx
   obtain ⟨x2,H2,t1,t2,t3⟩:=hrun _ _ o x1 _ hra r2
   obtain ⟨j3,j4⟩:=keepJ j1 j2 t3
   obtain ⟨x3,H3,u1,u2,u3⟩:=add_run (opI 3) t2
   obtain ⟨j5,j6⟩:=keepJ j3 j4 u3
   have hle2:=t2.le
   obtain ⟨x5,H4,v1,v2,v3,v4⟩:=j5.app (jV_ok js) (a:=.int .i64 (addK (treeB A[i] (splitB s)):Int)) 8 (by simp [jV];omega)
   have hB4:BdAt H4 o x3 (addB (opI 3) (treeB A[i] (splitB s))):=u2.kept v3 (fun hm=>by have:=(j6 o hm).2;omega) (fun a ha hm=>(j6 a hm).1 ha)
   have hk:addK s < (addB (opI 3) (treeB A[i] (splitB s))).1.length:=by
    have h1:=splitK_lt s
    have h2:=treeB_len A[i] (splitB s)
    have h3:=addB_len (opI 3) (treeB A[i] (splitB s))
    omega
   obtain ⟨p,pj,H5,w1,w2,w3,w4,w5⟩:=hB4.setY hk (((addB (opI 3) (treeB A[i] (splitB s))).1.length:Nat):Int)
   have hx5:∀ q ∈ rowA x5,q ∉ rowA x3∧Hb.length≤q:=fun q hq=>by
    rcases v4 q hq with h | h
    ·exact j6 q h
    ·refine ⟨fun hm=>?_,?_⟩
     ·have:=u2.row.rw.lt q hm;omega
     ·have g1:=hf1.1.1
      have g2:=r3.1.1
      have g3:=t3.1.1
      have g4:=u3.1.1
      omega
   have hj5:RwW H5 false 1 x5 (jV (js++[addK (treeB A[i] (splitB s))])):=by
    rw [jV_app]
    exact v2.kept w5.1 fun a ha hm=>by
     rcases List.mem_cons.1 hm with h | h
     ·have:=(hx5 a ha).2;omega
     ·exact (hx5 a ha).1 h
   have hf4:Fp o Hb xb H4 x3:=by
    have hf3:=((hf1.trans r3).trans t3).trans u3
    refine ⟨⟨Nat.le_trans hf3.1.1 v3.1,fun q hq hn=>(v3.2 q (Nat.lt_of_lt_of_le hq hf3.1.1) fun hm=>?_).trans (hf3.1.2 q hq hn)⟩,hf3.2⟩
    have:=(j6 q hm).2;omega
   obtain ⟨x6,H6,y1,y2,y3⟩:=ihk (i+1) _ (js++[addK (treeB A[i] (splitB s))]) x5 x3 H5 (by omega) (by omega) w4 hj5 hx5 (fun j hj=>by
    rw [setY_len]
    have h2:=treeB_len A[i] (splitB s)
    have h3:=addB_len (opI 3) (treeB A[i] (splitB s))
    have h4:=splitB_len s
    rcases List.mem_append.1 hj with h | h
    ·have:=hjs j h;omega
    ·rw [List.mem_singleton.1 h];exact addK_lt _ _) (by simp;omega) (hf4.trans w5)
   rw [hfm] at y2
   have e3:((afill [(0,1,(.int .i64 3))] [(.int .i64 0),(.int .u64 0),(.int .u64 0),(.int .u64 0),(.int .u64 0),(.int .i64 0),(.int .i64 0)]).map AV.agg)=some (inV (opI 3)):=rfl
   have e4:∀ n:Int,((setElems 1 [(0,AV.int .i64 n)] [(.int .i64 0)]).map (AV.vs 1 .clip))=some (.vs 1 .clip [.int .i64 n]):=fun n=>rfl
   simp only [go_sem,hlt,reprog_builder_alt_J4_eq,hx.idx hla,re_cells,aload_vp_re,alloc_re,hx.len,hl.1,hwl,he,reprog_builder_alt_J6_eq,r1,ld_re hp1,t1,e3,u1,e4,v1,hB4.ld0,hB4.len,w1,w2,w3,reprog_builder_alt_J5_eq,wsucc (n:=i) (by omega),y1]
   exact ⟨x6,H6,rfl,y2,y3⟩
end Go.Am
namespace Go.Am
set_option linter.unusedSimpArgs false
set_option linter.unusedVariables false
set_option maxRecDepth 100000

def inAt (p:List In) (k:Nat):In:=p.getD k (opI 0)
def visitM (p:List In) (k:Nat) (st:List Nat × List Bool):List Nat × List Bool:=if k < p.length∧st.2.getD k false=false then (st.1++[k],st.2.set k true) else st
def holdsM (s:List UInt8) (lines:Bool) (op:Int) (i:Nat):Bool:=if op=4 then (i == 0 || (lines && s.getD (i - 1) 0 == 10)) else (i == s.length || (lines && s.getD i 0 == 10))
def stepM (p:List In) (s:List UInt8) (lines:Bool) (i k:Nat) (st:List Nat × List Bool):List Nat × List Bool :=
 if (inAt p k).op=2 then visitM p (inAt p k).y.toNat (visitM p (inAt p k).x.toNat st)
 else if (inAt p k).op=3 then visitM p (inAt p k).x.toNat st
 else if (inAt p k).op=4 ∨ (inAt p k).op=5 then (if holdsM s lines (inAt p k).op i=true then visitM p (k+1) st else st)
 else st
def closeF (p:List In) (s:List UInt8) (lines:Bool) (i:Nat):Nat→Nat→List Nat × List Bool→Bool→List Nat × Bool
 | 0,_,st,m=>(st.1,m)
 | f+1,n,st,m=>if n < st.1.length then closeF p s lines i f (n+1) (stepM p s lines i (st.1.getD n 0) st) (m || (inAt p (st.1.getD n 0)).op == 6) else (st.1,m)
def PW (p:List In):Prop:=∀ (k:Nat) (i:In),p[k]?=some i→0≤i.x∧0≤i.y∧(i.op=1→k+1 < p.length)
theorem PW.at {p:List In} (h:PW p) {k:Nat} (hk:k < p.length):p[k]?=some (inAt p k)∧0≤(inAt p k).x∧0≤(inAt p k).y∧((inAt p k).op=1→k+1 < p.length):=by
 have he:p[k]?=some (inAt p k):=by unfold inAt;rw [List.getD_eq_getElem?_getD,List.getElem?_eq_getElem hk];rfl
 exact ⟨he,h k _ he⟩
structure ThOk (p:List In) (t:List Nat) (sn:List Bool):Prop where
 len:sn.length=p.length
 lt:∀ k ∈ t,k < p.length
 le:t.length+sn.count false≤p.length
theorem count_set {sn:List Bool} {k:Nat} (hk:k < sn.length) (h:sn.getD k false=false):(sn.set k true).count false+1=sn.count false:=by
 rw [List.getD_eq_getElem?_getD,List.getElem?_eq_getElem hk] at h
 have h:sn[k]=false:=h
 have hg:sn[k]?=some false:=by rw [List.getElem?_eq_getElem hk,h]
 obtain ⟨A,B,rfl,rfl⟩:=mid_of hg
 simp
 omega
theorem visit_ok {p : List In} {t : List Nat} {sn : List Bool} (h : ThOk p t sn) (k : Nat) : ThOk p (visitM p k (t, sn)).1 (visitM p k (t, sn)).2 ∧ t.length ≤ (visitM p k (t, sn)).1.length ∧
    (visitM p k (t,sn)).1.length+(visitM p k (t,sn)).2.count false=t.length+sn.count false∧∃ l,(visitM p k (t,sn)).1=t++l:=by
 unfold visitM
 split
 ·rename_i hc
  have hk:k < sn.length:=by rw [h.len];exact hc.1
  have hcs:=count_set hk hc.2
  refine ⟨⟨by simp [h.len],fun q hq=>?_,?_⟩,by simp,by simp;omega,[k],rfl⟩
  ·rcases List.mem_append.1 hq with hq | hq
   ·exact h.lt q hq
   ·rw [List.mem_singleton.1 hq];exact hc.1
  ·have:=h.le
   simp;omega
 ·exact ⟨h,Nat.le_refl _,rfl,[],by simp⟩
theorem step_ok {p : List In} (s : List UInt8) (lines : Bool) (i k : Nat) {t : List Nat} {sn : List Bool} (h : ThOk p t sn) : ThOk p (stepM p s lines i k (t, sn)).1 (stepM p s lines i k (t, sn)).2 ∧ t.length ≤ (stepM p s lines i k (t, sn)).1.length ∧
    (stepM p s lines i k (t,sn)).1.length+(stepM p s lines i k (t,sn)).2.count false=t.length+sn.count false∧∃ l,(stepM p s lines i k (t,sn)).1=t++l:=by
 unfold stepM
 split
 ·obtain ⟨a1,a2,a3,l,a4⟩:=visit_ok h (inAt p k).x.toNat
  obtain ⟨b1,b2,b3,m,b4⟩:=visit_ok a1 (inAt p k).y.toNat
  have e:((visitM p (inAt p k).x.toNat (t,sn)).1,(visitM p (inAt p k).x.toNat (t,sn)).2)=visitM p (inAt p k).x.toNat (t,sn):=rfl
  rw [e] at b1 b2 b3 b4
  exact ⟨b1,by omega,by omega,l++m,by rw [b4,a4,List.append_assoc]⟩
 split
 ·exact visit_ok h _
 split
 ·split
  ·exact visit_ok h _
  ·exact ⟨h,Nat.le_refl _,rfl,[],by simp⟩
 ·exact ⟨h,Nat.le_refl _,rfl,[],by simp⟩
def bL (l:List Bool):List AV:=l.map AV.bool
def BlAt (H:Hp) (o:Nat) (l:List Bool):Prop:=H[o]?=some (.cells (bL l))
def blV (o:Nat) (l:List Bool):AV:=.rs false 1 o 0 l.length l.length
theorem bl_idx (o:Nat) (l:List Bool) {k:Nat} (hk:k < l.length):aindexS 1 (blV o l) (.int .i64 (k:Int))=some (.ptr o (0+k * 1)):=by
 unfold blV aindexS
 dsimp only
 rw [if_pos (by omega),Int.toNat_natCast]
theorem BlAt.ld {H:Hp} {o:Nat} {l:List Bool} (h:BlAt H o l) {k:Nat} (hk:k < l.length):aload false 1 (.ptr o (0+k * 1)) H=some (.bool (l.getD k false)):=by
 rw [aload_of h]
 unfold Go.Am.apart bL
 simp [List.getElem?_eq_getElem hk]
theorem BlAt.st {H:Hp} {o:Nat} {l:List Bool} (h:BlAt H o l) {k:Nat} (hk:k < l.length) (b:Bool):astoreU 1 (.ptr o (0+k * 1)) (.bool b) H=some (.tuple [],H.set o (.cells (bL (l.set k b)))):=by
 rw [astore_of (sz:=1) (v:=.bool b) h rfl rfl (by simp [bL];omega)]
 have:splice (bL l) (0+k * 1) (AV.bool b).cells=bL (l.set k b):=by
  unfold splice bL
  simp only [AV.cells,List.length_singleton,Nat.zero_add,Nat.mul_one]
  rw [List.map_set,List.set_eq_take_append_cons_drop,if_pos (by simpa using hk)]
  simp
 rw [this]
theorem BlAt.kept {H H':Hp} {o:Nat} {l:List Bool} {W:List Nat} (h:BlAt H o l) (hk:Kpt W H H') (hn:o ∉ W):BlAt H' o l:=hk.get h hn
theorem Rw.nlen {H:Hp} {x:AV} {t:List Nat} (h:Rw H false 1 x (jV t)) (e:Nat):alenD (.slice e) x=some (.int .i64 (t.length:Int)):=by rw [h.len];simp [jV]
theorem Rw.nidx {H:Hp} {x:AV} {t:List Nat} (h:Rw H false 1 x (jV t)) {i:Nat} (hi:i < t.length):∃ p,aindexS 1 x (.int .i64 (i:Int))=some p∧aload false 1 p H=some (.int .i64 (t.getD i 0:Int)):=by
 have hok:∀ a ∈ jV t,ElOk false 1 a:=fun a ha=>by
  obtain ⟨k,_,rfl⟩:=List.mem_map.1 ha
  exact ⟨rfl,rfl,rfl,rfl⟩
 exact h.idx (by omega) hok (by simp [jV,List.getElem?_eq_getElem hi])
theorem Rw.napp {H : Hp} {x : AV} {t : List Nat} (h : Rw H false 1 x (jV t)) (k : Nat) (hb : t.length ≤ 1000000) :
    ∃ x' H',aappEL false 1 8 x (.vs 1 .clip [.int .i64 (k:Int)]) H=some (x',H')∧Rw H' false 1 x' (jV (t++[k]))∧Kpt (rowA x) H H'∧(∀ q ∈ rowA x',q ∈ rowA x ∨ q=H.length):=by
 have hok:∀ a ∈ jV t,ElOk false 1 a:=fun a ha=>by
  obtain ⟨k,_,rfl⟩:=List.mem_map.1 ha
  exact ⟨rfl,rfl,rfl,rfl⟩
 obtain ⟨x',H',h1,h2,h3,h4,_⟩:=h.app hok 8 (a:=.int .i64 (k:Int)) (by simp [jV];omega)
 exact ⟨x',H',h1,by simpa [jV] using h2,h3,h4⟩
structure VsAt (H:Hp) (pp sp tp so:Nat) (xv x:AV) (lb:Bool) (p:List In) (t:List Nat) (sn:List Bool):Prop where
 prog:H[pp]?=some (.cells [xv,.bool lb])
 code:SlC 7 xv (p.map inV)
 seen:H[sp]?=some (.cells [blV so sn])
 marks:BlAt H so sn
 thr:H[tp]?=some (.cells [x])
 row:Rw H false 1 x (jV t)
 ok:ThOk p t sn
 ne:pp ≠ so∧pp ≠ tp∧sp ≠ so∧sp ≠ tp∧tp ≠ so
section
variable {H:Hp} {pp sp tp so:Nat} {xv x:AV} {lb:Bool} {p:List In} {t:List Nat} {sn:List Bool}
def Vp (sp tp so:Nat) (H:Hp) (x:AV) (H':Hp) (x':AV):Prop:=Kpt (so :: tp :: rowA x) H H'∧∀ q ∈ rowA x',q ∈ rowA x ∨ H.length≤q
theorem Vp.refl (sp tp so:Nat) (H:Hp) (x:AV):Vp sp tp so H x H x:=⟨Kpt.refl _ _,fun q hq=>.inl hq⟩
theorem Vp.trans {H' H'':Hp} {x' x'':AV} (h:Vp sp tp so H x H' x') (h':Vp sp tp so H' x' H'' x''):Vp sp tp so H x H'' x'':=by
 refine ⟨⟨Nat.le_trans h.1.1 h'.1.1,fun i hi hn=>(h'.1.2 i (Nat.lt_of_lt_of_le hi h.1.1) fun hm=>?_).trans (h.1.2 i hi hn)⟩,fun q hq=>?_⟩
 ·simp only [List.mem_cons] at hm hn
  rcases hm with h1 | h1 | h1
  ·exact hn (.inl h1)
  ·exact hn (.inr (.inl h1))
  ·rcases h.2 i h1 with h2 | h2
   ·exact hn (.inr (.inr h2))
   ·omega
 ·rcases h'.2 q hq with h1 | h1
  ·exact h.2 q h1
  ·exact .inr (Nat.le_trans h.1.1 h1)
theorem Vp.push (sp tp so:Nat) (H:Hp) (x:AV) (l:Hp):Vp sp tp so H x (H++l) x:=⟨Kpt.push _ _ _,fun q hq=>.inl hq⟩
theorem VsAt.push (h:VsAt H pp sp tp so xv x lb p t sn) (l:Hp):VsAt (H++l) pp sp tp so xv x lb p t sn :=
 ⟨get_push h.prog l,h.code,get_push h.seen l,get_push h.marks l,get_push h.thr l,h.row.kept (Kpt.push [] H l) (by simp),h.ok,h.ne⟩
theorem visit_run (hP : p.length ≤ 5000) (h : VsAt H pp sp tp so xv x lb p t sn) (k : Nat) :
    ∃ x' H',C_recapture_finder_close_1 [.int .i64 (k:Int),.ptr pp 0,.ptr sp 0,.ptr tp 0] H=some (.tuple [],H')∧VsAt H' pp sp tp so xv x' lb p (visitM p k (t,sn)).1 (visitM p k (t,sn)).2∧Vp sp tp so H x H' x':=by
 obtain ⟨n1,n2,n3,n4,n5⟩:=h.ne
 have hlen:alenD (.slice 76) xv=some (.int .i64 (p.length:Int)):=by rw [h.code.len,List.length_map]
 have lp:aload false 1 (.ptr pp (0+0)) H=some xv:=by rw [aload_of h.prog];rfl
 have ls:aload false 1 (.ptr sp 0) H=some (blV so sn):=by rw [aload_of h.seen];rfl
 have hok:=(visit_ok h.ok k).1
 rw [F_recapture_finder_close_1_eq]
 unfold F_recapture_finder_close_1
 unfold visitM at hok ⊢
 by_cases hk:k < p.length
 ·have hlt:decide ((k:Int) < (p.length:Int))=true:=decide_eq_true (by omega)
  have hks:k < sn.length:=by rw [h.ok.len];exact hk
  by_cases hs:sn.getD k false=false
  ·rw [if_pos ⟨hk,hs⟩] at hok ⊢
   have hm:=h.marks.ld hks
   rw [hs] at hm
   have hst:=h.marks.st hks true
   -- behind the mark
   have hth:=get_set_ne (.cells (bL (sn.set k true))) (Ne.symm n5) h.thr
   have lt':aload false 1 (.ptr tp 0) (H.set so (.cells (bL (sn.set k true))))=some x:=by rw [aload_of hth];rfl
   have hk1:Kpt [so] H (H.set so (.cells (bL (sn.set k true)))):=Kpt.set _ _ (by simp)
   have hsox:so ∉ rowA x:=h.row.notrow h.marks
   have htpx:tp ∉ rowA x:=h.row.notrow h.thr
   have hppx:pp ∉ rowA x:=h.row.notrow h.prog
   have hspx:sp ∉ rowA x:=h.row.notrow h.seen
   have hrow1:=h.row.kept hk1 fun a ha hm=>hsox (by rw [List.mem_singleton.1 hm] at ha;exact ha)
   obtain ⟨x',H2,r1,r2,r3,r4⟩:=hrow1.napp k (by have:=h.ok.le;omega)
   have hth2:=r3.get hth htpx
   obtain ⟨kc,kk⟩:=r2.known
   have hst2:astoreU 1 (.ptr tp 0) x' H2=some (.tuple [],H2.set tp (.cells [x'])):=by
    rw [astore_of (sz:=1) (v:=x') hth2 kk (by rw [kc];rfl) (by simp),kc]
    rfl
   have e1:((setElems 1 [(0,AV.int .i64 (k:Int))] [(.int .i64 0)]).map (AV.vs 1 .clip))=some (.vs 1 .clip [.int .i64 (k:Int)]):=rfl
   have hk3:Kpt [tp] H2 (H2.set tp (.cells [x'])):=Kpt.set _ _ (by simp)
   have hlen1:(H.set so (.cells (bL (sn.set k true)))).length=H.length:=by simp
   have hx'lt:∀ q,q < H.length→q ∈ rowA x'→q ∈ rowA x:=fun q hq hm=>by
    rcases r4 q hm with h1 | h1
    ·exact h1
    ·rw [hlen1] at h1;omega
   have hbs:blV so sn=blV so (sn.set k true):=by simp [blV]
   simp only [go_sem,lp,hlen,hlt,ls,bl_idx so sn hks,hm,hst,lt',e1,r1,hst2,Bool.not_false]
   have hset:∀ {q:Nat} {c:List AV},H[q]?=some (.cells c)→q ≠ so→q ≠ tp→q ∉ rowA x→(H2.set tp (.cells [x']))[q]?=some (.cells c):=fun hq h1 h2 h3 =>
    hk3.get (r3.get (hk1.get hq (by simp [h1])) h3) (by simp [h2])
   refine ⟨x',_,rfl,⟨hset h.prog n1 n2 hppx,h.code,by rw [← hbs];exact hset h.seen n3 n4 hspx,?_,get_set_eq _ hth2,r2.kept hk3 fun a ha hm=>?_,hok,h.ne⟩,?_,?_⟩
   ·exact hk3.get (r3.get (get_set_eq _ h.marks) hsox) (by simp [Ne.symm n5])
   ·rw [List.mem_singleton.1 hm] at ha
    exact htpx (hx'lt tp (lt_of_get h.thr) ha)
   ·refine ⟨by have:=r3.1;simp at this ⊢;omega,fun q hq hn=>?_⟩
    simp only [List.mem_cons,not_or] at hn
    rw [hk3.2 q (by have:=r3.1;rw [hlen1] at this;omega) (by simp [hn.2.1]),r3.2 q (by rw [hlen1];exact hq) hn.2.2,hk1.2 q hq (by simp [hn.1])]
   ·intro q hq
    rcases r4 q hq with h1 | h1
    ·exact .inl h1
    ·exact .inr (by rw [h1,hlen1];exact Nat.le_refl _)
  ·rw [if_neg (fun hh=>hs hh.2)] at hok ⊢
   have hm:=h.marks.ld hks
   have hs':sn.getD k false=true:=by simpa using hs
   rw [hs'] at hm
   simp only [go_sem,lp,hlen,hlt,ls,bl_idx so sn hks,hm,Bool.not_true]
   exact ⟨x,H,rfl,h,Vp.refl _ _ _ _ _⟩
 ·have hlt:decide ((k:Int) < (p.length:Int))=false:=decide_eq_false (by omega)
  rw [if_neg (fun hh=>hk hh.1)]
  simp only [go_sem,lp,hlen,hlt]
  exact ⟨x,H,rfl,h,Vp.refl _ _ _ _ _⟩
end
end Go.Am
namespace Go.Am
set_option linter.unusedSimpArgs false
set_option linter.unusedVariables false
set_option maxRecDepth 100000

theorem ro_of {C:List AV→Hp→Option (AV × Hp)} {args:List AV} {H H':Hp} {v v':AV} (h:C args H=some (v,H')) (ht:H'.take H.length=H) (hc:closeV H' H.length 400 v=some v'):roC C args H=some (v',H):=by
 unfold roC
 rw [h]
 dsimp only
 rw [if_pos (by rw [ht];exact eqbH_refl _),hc]
def FdAt (H:Hp) (fo:Nat) (s:List UInt8) (lines:Bool) (spv:AV):Prop:=H[fo]?=some (.cells [.str s,.bool lines,spv])
section
variable {H:Hp} {fo:Nat} {s:List UInt8} {lines:Bool} {spv:AV}
theorem FdAt.ldS (h:FdAt H fo s lines spv):aload false 1 (.ptr fo (0+0)) H=some (.str s):=by rw [aload_of h];rfl
theorem FdAt.ldL (h:FdAt H fo s lines spv):aload false 1 (.ptr fo (0+1)) H=some (.bool lines):=by rw [aload_of h];rfl
theorem FdAt.ldP (h:FdAt H fo s lines spv):aload false 1 (.ptr fo (0+2)) H=some spv:=by rw [aload_of h];rfl
theorem aindexStr_of {s:List UInt8} {i:Nat} {b:UInt8} (h:s[i]?=some b):aindexStr (.str s) (.int .i64 (i:Int))=some (.int .u8 b.toNat):=by simp [aindexStr,h]
theorem aix {s:List UInt8} {i:Nat} (h:i < s.length):aindexStr (.str s) (.int .i64 (i:Int))=some (.int .u8 ((s.getD i 0).toNat:Int)):=by
 rw [aindexStr_of (List.getElem?_eq_getElem h),List.getD_eq_getElem?_getD,List.getElem?_eq_getElem h]
 rfl
theorem u8ten (b:UInt8):(((b.toNat:Int)) == 10)=(b == 10):=by
 rw [Bool.eq_iff_iff]
 simp only [beq_iff_eq]
 constructor
 ·intro e
  have:b.toNat=10:=by omega
  exact UInt8.toNat_inj.1 this
 ·intro e
  subst e
  rfl
theorem holds_run (hf:FdAt H fo s lines spv) {op:Int} {i:Nat} (hi:i≤s.length) (hs:s.length≤9000000000):roC C_recapture_finder_holds [.ptr fo 0,.int .i64 op,.int .i64 (i:Int)] H=some (.bool (holdsM s lines op i),H):=by
 have key:C_recapture_finder_holds [.ptr fo 0,.int .i64 op,.int .i64 (i:Int)] H=some (.bool (holdsM s lines op i),H):=by
  rw [F_recapture_finder_holds_eq]
  unfold F_recapture_finder_holds holdsM
  by_cases h4:op=4
  ·have e4:(op == 4)=true:=by simp [h4]
   rw [if_pos h4]
   by_cases h0:i=0
   ·subst h0
    have e0:((((0:Nat):Int)) == 0)=true:=rfl
    simp only [go_sem,e4,e0]
    rfl
   ·have e0:(((i:Int)) == 0)=false:=by simp;omega
    have e0':(i == 0)=false:=by simp [h0]
    have hw:IntKind.i64.wrap ((i:Int) - 1)=((i - 1:Nat):Int):=by rw [wrap64 (by omega) (by omega)];omega
    cases lines with
    | true=>simp only [go_sem,e4,e0,hf.ldL,hf.ldS,hw,aix (show i - 1 < s.length by omega),u8ten,e0',Bool.false_or,Bool.true_and]
    | false=>simp only [go_sem,e4,e0,hf.ldL,e0',Bool.false_or,Bool.false_and]
  ·have e4:(op == 4)=false:=by simp [h4]
   rw [if_neg h4]
   by_cases h0:i=s.length
   ·have e0:(((i:Int)) == (s.length:Int))=true:=by simp [h0]
    have e0':(i == s.length)=true:=by simp [h0]
    simp only [go_sem,e4,recapture_finder_holds_J1_eq,hf.ldS,e0,e0',Bool.true_or]
   ·have e0:(((i:Int)) == (s.length:Int))=false:=by simp;omega
    have e0':(i == s.length)=false:=by simp [h0]
    cases lines with
    | true=>simp only [go_sem,e4,recapture_finder_holds_J1_eq,hf.ldS,e0,hf.ldL,aix (show i < s.length by omega),u8ten,e0',Bool.false_or,Bool.true_and]
    | false=>simp only [go_sem,e4,recapture_finder_holds_J1_eq,hf.ldS,e0,hf.ldL,e0',Bool.false_or,Bool.false_and]
 exact ro_of key (by simp) rfl
end
theorem ld_in {H : Hp} {q : Nat} {i : In} (h : H[q]? = some (.cells (inC i))) : aload false 1 (.ptr q (0 + 0)) H = some (.int .i64 i.op) ∧ aload false 1 (.ptr q (0 + 5)) H = some (.int .i64 i.x) ∧ aload false 1 (.ptr q (0 + 6)) H = some (.int .i64 i.y) ∧
    aload true 4 (.ptr q (0+1)) H=some (.agg [.int .u64 i.b0,.int .u64 i.b1,.int .u64 i.b2,.int .u64 i.b3]):=by
 refine ⟨?_,?_,?_,?_⟩ <;> (rw [aload_of h];rfl)
theorem alloc_in (Hc:Hp) (i:In):astoreU 7 (.ptr Hc.length 0) (inV i) (Hc++[AObj.cells [(.int .i64 0),(.int .u64 0),(.int .u64 0),(.int .u64 0),(.int .u64 0),(.int .i64 0),(.int .i64 0)]])=some (.tuple [],Hc++[.cells (inC i)]):=by
 rw [astore_of (sz:=7) (v:=inV i) (l:=[(.int .i64 0),(.int .u64 0),(.int .u64 0),(.int .u64 0),(.int .u64 0),(.int .i64 0),(.int .i64 0)]) (by simp) rfl rfl (by simp)]
 simp [splice,inV,AV.cells,inC]
theorem code_idx {xv:AV} {p:List In} (h:SlC 7 xv (p.map inV)) {k:Nat} (hk:k < p.length):aindexS 7 xv (.int .i64 (k:Int))=some (.vp (inC (inAt p k))):=by
 have:(p.map inV)[k]?=some (inV (inAt p k)):=by
  unfold inAt
  rw [List.getElem?_map,List.getD_eq_getElem?_getD,List.getElem?_eq_getElem hk]
  rfl
 rw [h.idx this]
 rfl
theorem aload_vp_in (i:In) (H:Hp):aload true 7 (.vp (inC i)) H=some (inV i):=rfl
section
variable {fo:Nat} {s:List UInt8} {lines:Bool} {spv:AV} {pp sp tp so:Nat} {xv:AV} {lb:Bool} {p:List In}
theorem close_loop (hP : p.length ≤ 5000) (hW : PW p) {i : Nat} (hi : i ≤ s.length) (hs : s.length ≤ 9000000000) (hfo : fo ≠ so ∧ fo ≠ tp) (H0 : Hp) :
    ∀ (f n:Nat) (t:List Nat) (sn:List Bool) (m:Bool) (x:AV) (Hc:Hp),(t.length - n)+sn.count false≤f→n≤t.length→VsAt Hc pp sp tp so xv x lb p t sn→FdAt Hc fo s lines spv →
    ∃ x' H',recapture_finder_close_L1 (.ptr fo 0) (.int .i64 (i:Int)) (.ptr pp 0) (.ptr tp 0) (.bool m) (.fn (.func 81) [] [.ptr pp 0,.ptr sp 0,.ptr tp 0]) (.int .i64 (n:Int)) H0 Hc=some (.tuple [x',.bool (closeF p s lines i f n (t,sn) m).2],H') ∧
     Rw H' false 1 x' (jV (closeF p s lines i f n (t,sn) m).1)∧(∀ k ∈ (closeF p s lines i f n (t,sn) m).1,k < p.length)∧(closeF p s lines i f n (t,sn) m).1.length≤p.length∧Vp sp tp so Hc x H' x':=by
 intro f
 induction f with
 | zero =>
  intro n t sn m x Hc hf hn hv hF
  have hlt:decide ((n:Int) < (t.length:Int))=false:=decide_eq_false (by omega)
  have lt':aload false 1 (.ptr tp 0) Hc=some x:=by rw [aload_of hv.thr];rfl
  rw [recapture_finder_close_L1_eq]
  simp only [go_sem,lt',hv.row.nlen,hlt,recapture_finder_close_J1_eq,closeF]
  exact ⟨x,Hc,rfl,hv.row,hv.ok.lt,by have:=hv.ok.le;omega,Vp.refl _ _ _ _ _⟩
 | succ f ih =>
  intro n t sn m x Hc hf hn hv hF
  have lt':aload false 1 (.ptr tp 0) Hc=some x:=by rw [aload_of hv.thr];rfl
  by_cases hnl:n < t.length
  ·have hlt:decide ((n:Int) < (t.length:Int))=true:=decide_eq_true (by omega)
   have e0:closeF p s lines i (f+1) n (t,sn) m=closeF p s lines i f (n+1) (stepM p s lines i (t.getD n 0) (t,sn)) (m || (inAt p (t.getD n 0)).op == 6):=by rw [closeF,if_pos hnl]
   rw [e0]
   obtain ⟨pk,q1,q2⟩:=hv.row.nidx hnl
   have hkm:t.getD n 0 ∈ t:=by rw [List.getD_eq_getElem?_getD,List.getElem?_eq_getElem hnl];exact List.getElem_mem hnl
   have hkl:=hv.ok.lt _ hkm
   generalize t.getD n 0=k at *
   obtain ⟨w1,w2,w3,w4⟩:=hW.at hkl
   have lp:aload false 1 (.ptr pp (0+0)) Hc=some xv:=by rw [aload_of hv.prog];rfl
   have hv1:=hv.push [AObj.cells (inC (inAt p k))]
   have hF1:FdAt (Hc++[AObj.cells (inC (inAt p k))]) fo s lines spv:=get_push hF _
   have hq:=get_push_len Hc (AObj.cells (inC (inAt p k))) []
   obtain ⟨l1,l2,l3,l4⟩:=ld_in hq
   obtain ⟨so1,so2,so3,lx,so4⟩:=step_ok s lines i k hv.ok
   -- the next round
   have next : ∀ (t' : List Nat) (sn' : List Bool) (m' : Bool) (x' : AV) (H' : Hp), (t', sn') = stepM p s lines i k (t, sn) → VsAt H' pp sp tp so xv x' lb p t' sn' → Vp sp tp so Hc x H' x' →
       ∃ x'' H'',recapture_finder_close_J3 (.ptr fo 0) (.int .i64 (i:Int)) (.ptr pp 0) (.ptr tp 0) (.bool m') (.fn (.func 81) [] [.ptr pp 0,.ptr sp 0,.ptr tp 0]) (.int .i64 (n:Int)) H0 H'=some (.tuple [x'',.bool (closeF p s lines i f (n+1) (stepM p s lines i k (t,sn)) m').2],H'') ∧
        Rw H'' false 1 x'' (jV (closeF p s lines i f (n+1) (stepM p s lines i k (t,sn)) m').1)∧(∀ k' ∈ (closeF p s lines i f (n+1) (stepM p s lines i k (t,sn)) m').1,k' < p.length)∧(closeF p s lines i f (n+1) (stepM p s lines i k (t,sn)) m').1.length≤p.length∧Vp sp tp so Hc x H'' x'':=by
    intro t' sn' m' x' H' he hv' hvp
    rw [← he] at so1 so2 so3 so4 ⊢
    have hF':FdAt H' fo s lines spv:=hvp.1.get hF (by
     simp only [List.mem_cons,not_or]
     exact ⟨hfo.1,hfo.2,hv.row.notrow hF⟩)
    obtain ⟨x'',H'',r1,r2,r3,r4,r5⟩:=ih (n+1) t' sn' m' x' H' (by simp only at so3 so2;omega) (by simp only at so2;omega) hv' hF'
    rw [recapture_finder_close_J3_eq]
    simp only [go_sem,wsucc (n:=n) (by have:=hv.ok.le;omega),r1]
    exact ⟨x'',H'',rfl,r2,r3,r4,hvp.trans r5⟩
   have pushV:=Vp.push sp tp so Hc x [AObj.cells (inC (inAt p k))]
   rw [recapture_finder_close_L1_eq]
   simp only [go_sem,lt',hv.row.nlen,hlt,recapture_finder_close_J2_eq,q1,q2,lp,code_idx hv.code hkl,aload_vp_in,alloc_in,l1]
   have vcall:∀ (args:List AV) (Hx:Hp),acall cfg (callw cfg) (.fn (.func 81) [] [.ptr pp 0,.ptr sp 0,.ptr tp 0]) args Hx=C_recapture_finder_close_1 (args++[.ptr pp 0,.ptr sp 0,.ptr tp 0]) Hx:=fun args Hx=>by rw [V_recapture_finder_close_1];rfl
   generalize hin:inAt p k=ik at *
   have hxn:ik.x=(ik.x.toNat:Int):=by omega
   have hyn:ik.y=(ik.y.toNat:Int):=by omega
   by_cases h2:ik.op=2
   ·have e2:(ik.op == 2)=true:=by simp [h2]
    have e6:(ik.op == 6)=false:=by simp [h2]
    have hst:stepM p s lines i k (t,sn)=visitM p ik.y.toNat (visitM p ik.x.toNat (t,sn)):=by unfold stepM;rw [hin,if_pos h2]
    obtain ⟨x1,H1,r1,r2,r3⟩:=visit_run hP hv1 ik.x.toNat
    obtain ⟨x2,H2,s1,s2,s3⟩:=visit_run hP r2 ik.y.toNat
    rw [← hxn] at r1
    rw [← hyn] at s1
    have hq1:H1[Hc.length]?=some (.cells (inC ik)):=r3.1.get hq (by
     simp only [List.mem_cons,not_or]
     refine ⟨fun he=>?_,fun he=>?_,hv1.row.notrow hq⟩
     ·have:=lt_of_get hv.marks;omega
     ·have:=lt_of_get hv.thr;omega)
    obtain ⟨u1,u2,u3⟩:=next _ _ m _ _ (by rw [hst]) s2 ((pushV.trans r3).trans s3)
    simp only [e2,go_sem,l2,vcall,List.cons_append,List.nil_append,r1,(ld_in hq1).2.2.1,s1,e6,Bool.or_false]
    exact ⟨u1,u2,u3⟩
   have e2:(ik.op == 2)=false:=by simp [h2]
   by_cases h3:ik.op=3
   ·have e3:(ik.op == 3)=true:=by simp [h3]
    have e6:(ik.op == 6)=false:=by simp [h3]
    have hst:stepM p s lines i k (t,sn)=visitM p ik.x.toNat (t,sn):=by unfold stepM;rw [hin,if_neg h2,if_pos h3]
    obtain ⟨x1,H1,r1,r2,r3⟩:=visit_run hP hv1 ik.x.toNat
    rw [← hxn] at r1
    obtain ⟨u1,u2,u3⟩:=next _ _ m _ _ (by rw [hst]) r2 (pushV.trans r3)
    simp only [e2,e3,go_sem,l2,vcall,List.cons_append,List.nil_append,r1,e6,Bool.or_false]
    exact ⟨u1,u2,u3⟩
   have e3:(ik.op == 3)=false:=by simp [h3]
   have hwk:IntKind.i64.wrap ((k:Int)+1)=((k+1:Nat):Int):=wsucc (by omega)
   by_cases h4:ik.op=4
   ·have e4:(ik.op == 4)=true:=by simp [h4]
    have e6:(ik.op == 6)=false:=by simp [h4]
    have hh:=holds_run hF1 (op:=ik.op) hi hs
    cases hb:holdsM s lines ik.op i with
    | true =>
     have hst:stepM p s lines i k (t,sn)=visitM p (k+1) (t,sn):=by unfold stepM;rw [hin,if_neg h2,if_neg h3,if_pos (.inl h4),hb,if_pos rfl]
     obtain ⟨x1,H1,r1,r2,r3⟩:=visit_run hP hv1 (k+1)
     obtain ⟨u1,u2,u3⟩:=next _ _ m _ _ (by rw [hst]) r2 (pushV.trans r3)
     simp only [e2,e3,e4,go_sem,l1,hh,hb,hwk,vcall,List.cons_append,List.nil_append,r1,e6,Bool.or_false]
     exact ⟨u1,u2,u3⟩
    | false =>
     have hst:stepM p s lines i k (t,sn)=(t,sn):=by unfold stepM;rw [hin,if_neg h2,if_neg h3,if_pos (.inl h4),hb,if_neg (by decide)]
     obtain ⟨u1,u2,u3⟩:=next _ _ m _ _ (by rw [hst]) hv1 pushV
     simp only [e2,e3,e4,go_sem,l1,hh,hb,e6,Bool.or_false]
     exact ⟨u1,u2,u3⟩
   have e4:(ik.op == 4)=false:=by simp [h4]
   by_cases h5:ik.op=5
   ·have e5:(ik.op == 5)=true:=by simp [h5]
    have e6:(ik.op == 6)=false:=by simp [h5]
    have hh:=holds_run hF1 (op:=ik.op) hi hs
    cases hb:holdsM s lines ik.op i with
    | true =>
     have hst:stepM p s lines i k (t,sn)=visitM p (k+1) (t,sn):=by unfold stepM;rw [hin,if_neg h2,if_neg h3,if_pos (.inr h5),hb,if_pos rfl]
     obtain ⟨x1,H1,r1,r2,r3⟩:=visit_run hP hv1 (k+1)
     obtain ⟨u1,u2,u3⟩:=next _ _ m _ _ (by rw [hst]) r2 (pushV.trans r3)
     simp only [e2,e3,e4,e5,go_sem,l1,hh,hb,hwk,vcall,List.cons_append,List.nil_append,r1,e6,Bool.or_false]
     exact ⟨u1,u2,u3⟩
    | false =>
     have hst:stepM p s lines i k (t,sn)=(t,sn):=by unfold stepM;rw [hin,if_neg h2,if_neg h3,if_pos (.inr h5),hb,if_neg (by decide)]
     obtain ⟨u1,u2,u3⟩:=next _ _ m _ _ (by rw [hst]) hv1 pushV
     simp only [e2,e3,e4,e5,go_sem,l1,hh,hb,e6,Bool.or_false]
     exact ⟨u1,u2,u3⟩
   have e5:(ik.op == 5)=false:=by simp [h5]
   have hst:stepM p s lines i k (t,sn)=(t,sn):=by unfold stepM;rw [hin,if_neg h2,if_neg h3,if_neg (fun hh=>hh.elim h4 h5)]
   by_cases h6:ik.op=6
   ·have e6:(ik.op == 6)=true:=by simp [h6]
    obtain ⟨u1,u2,u3⟩:=next _ _ true _ _ (by rw [hst]) hv1 pushV
    simp only [e2,e3,e4,e5,e6,go_sem,Bool.or_true]
    exact ⟨u1,u2,u3⟩
   ·have e6:(ik.op == 6)=false:=by simp [h6]
    obtain ⟨u1,u2,u3⟩:=next _ _ m _ _ (by rw [hst]) hv1 pushV
    simp only [e2,e3,e4,e5,e6,go_sem,Bool.or_false]
    exact ⟨u1,u2,u3⟩
  ·have hlt:decide ((n:Int) < (t.length:Int))=false:=decide_eq_false (by omega)
   rw [recapture_finder_close_L1_eq,closeF,if_neg hnl]
   simp only [go_sem,lt',hv.row.nlen,hlt,recapture_finder_close_J1_eq]
   exact ⟨x,Hc,rfl,hv.row,hv.ok.lt,by have:=hv.ok.le;omega,Vp.refl _ _ _ _ _⟩
theorem close_run (hP : p.length ≤ 5000) (hW : PW p) {i : Nat} (hi : i ≤ s.length) (hs : s.length ≤ 9000000000) {H : Hp} (hF : FdAt H fo s lines spv) (hfo : fo ≠ so) (hc : SlC 7 xv (p.map inV)) {x : AV} {t : List Nat} {sn : List Bool} (hm : BlAt H so sn) (hr : Rw H false 1 x (jV t)) (hok : ThOk p t sn) :
    ∃ x' H',C_recapture_finder_close [.ptr fo 0,.agg [xv,.bool lb],x,blV so sn,.int .i64 (i:Int)] H=some (.tuple [x',.bool (closeF p s lines i p.length 0 (t,sn) false).2],H') ∧
     Rw H' false 1 x' (jV (closeF p s lines i p.length 0 (t,sn) false).1)∧(∀ k ∈ (closeF p s lines i p.length 0 (t,sn) false).1,k < p.length)∧(closeF p s lines i p.length 0 (t,sn) false).1.length≤p.length ∧
     Kpt (so :: rowA x) H H'∧∀ q ∈ rowA x',q ∈ rowA x ∨ H.length≤q:=by
 obtain ⟨kc,kk⟩:=hr.known
 have b1:abox (.agg [xv,.bool lb]) H=some (.ptr H.length 0,H++[.cells [xv,.bool lb]]):=rfl
 have b2:∀ w:Hp,abox x w=some (.ptr w.length 0,w++[.cells [x]]):=fun w=>by rw [abox_of kk,kc]
 have b3:∀ w:Hp,abox (blV so sn) w=some (.ptr w.length 0,w++[.cells [blV so sn]]):=fun w=>rfl
 have l1:(H++[AObj.cells [xv,.bool lb]]).length=H.length+1:=by simp
 have l2:((H++[AObj.cells [xv,.bool lb]])++[AObj.cells [x]]).length=H.length+2:=by simp
 have hsl:=lt_of_get hm
 have hfl:=lt_of_get hF
 have hv:VsAt (((H++[AObj.cells [xv,.bool lb]])++[AObj.cells [x]])++[AObj.cells [blV so sn]]) H.length (H.length+2) (H.length+1) so xv x lb p t sn:=by
  refine ⟨by simp,hc,by simp,?_,by simp,?_,hok,by omega⟩
  ·exact get_push (get_push (get_push hm _) _) _
  ·exact ((hr.kept (Kpt.push [] _ _) (by simp)).kept (Kpt.push [] _ _) (by simp)).kept (Kpt.push [] _ _) (by simp)
 have hF':FdAt (((H++[AObj.cells [xv,.bool lb]])++[AObj.cells [x]])++[AObj.cells [blV so sn]]) fo s lines spv:=get_push (get_push (get_push hF _) _) _
 obtain ⟨x',H',r1,r2,r3,r4,r5⟩:=close_loop hP hW hi hs ⟨hfo,by omega⟩ H p.length 0 t sn false x _ (by have:=hok.le;omega) (by omega) hv hF'
 have i0:(((0:Nat):Int))=0:=rfl
 rw [i0] at r1
 rw [F_recapture_finder_close_eq]
 unfold F_recapture_finder_close
 simp only [b1,b2,b3,l1,l2,bnd_some,r1]
 refine ⟨x',H',rfl,r2,r3,r4,?_,fun q hq=>?_⟩
 ·have hk:=r5.1
  refine ⟨by have:=hk.1;simp at this;omega,fun q hq hn=>?_⟩
  simp only [List.mem_cons,not_or] at hn
  rw [hk.2 q (by simp;omega) (by simp only [List.mem_cons,not_or];exact ⟨hn.1,by omega,hn.2⟩)]
  rw [List.getElem?_append_left (by simp;omega),List.getElem?_append_left (by simp;omega),List.getElem?_append_left hq]
 ·rcases r5.2 q hq with h | h
  ·exact .inl h
  ·exact .inr (by simp at h;omega)
end
end Go.Am
namespace Go.Am
set_option linter.unusedSimpArgs false
set_option linter.unusedVariables false
set_option maxRecDepth 100000

theorem rep_run {h : Hd} {e : Rt} {l : List Rt} {x : AV} {L : List AV} (hx : SlC 9 x L) (hl : RtL (e :: l) L) (ih : TreeRun e) {H : Hp} {o : Nat} {xv : AV} {s : Bs} (hB : BdAt H o xv s) (h5 : h.op = 5) (hov : s.2 = false) :
    ∃ xv' H',C_reprog_builder_repeat [.ptr o 0,reV h x] H=some (.tuple [],H')∧BdAt H' o xv' (treeB (.mk h (e :: l)) s)∧Fp o H xv H' xv':=by
 obtain ⟨a0,hla,hra⟩:=hl.get (i:=0) (e:=e) rfl
 have hix:=hx.idx hla
 simp only [Int.natCast_zero] at hix
 obtain ⟨xa,la,rfl,_,_⟩:=hra.out
 have hp:=get_push_len H (AObj.cells (reC h x)) []
 have hB1:=hB.push [AObj.cells (reC h x)]
 have hpo:H.length ≠ o:=by have:=lt_of_get hB.obj;omega
 have hpx:H.length ∉ rowA xv:=fun hm=>by have:=hB.row.rw.lt _ hm;omega
 rw [treeB_eq,if_neg (by simp [hov]),if_neg (by omega),if_neg (by omega),if_neg (by omega),if_neg (by omega),if_pos h5,F_reprog_builder_repeat_eq]
 unfold F_reprog_builder_repeat
 by_cases h1:h.lo=1
 ·have e1:(h.lo == 1)=true:=by simp [h1]
  rw [if_pos h1,headB_cons]
  obtain ⟨x1,H1,r1,r2,r3⟩:=ih _ _ o xv s hra hB1
  obtain ⟨x2,H2,s1,s2,s3⟩:=add_run { opI 2 with x:=(s.1.length:Int) } r2
  have hle:=r2.le
  have hkl:addK (treeB e s)≤4096:=by unfold addK;split <;> omega
  obtain ⟨p,pj,H3,t1,t2,t3,t4,t5⟩:=s2.setY (addK_lt _ _) ((addK (treeB e s)+1:Nat):Int)
  have e2:((afill [(0,1,(.int .i64 2)),(5,1,.int .i64 (s.1.length:Int))] [(.int .i64 0),(.int .u64 0),(.int .u64 0),(.int .u64 0),(.int .u64 0),(.int .i64 0),(.int .i64 0)]).map AV.agg)=some (inV { opI 2 with x:=(s.1.length:Int) }):=rfl
  simp only [box_re,go_sem,ld_lo hp,e1,hB1.ld0,hB1.len,ld_args hp,hix,re_cells,aload_vp_re,r1,e2,s1,s2.ld0,wsucc (n:=addK (treeB e s)) (by omega),t1,t2,t3]
  exact ⟨x2,H3,rfl,t4,(((Fp.push o H xv _).trans r3).trans s3).trans t5⟩
 ·have e1:(h.lo == 1)=false:=by simp [h1]
  rw [if_neg h1,headB_cons]
  obtain ⟨x1,H1,r1,r2,r3⟩:=split_run hB1
  have hp1:=r3.cell hp hpo hpx
  obtain ⟨x2,H2,s1,s2,s3⟩:=ih _ _ o x1 _ hra r2
  have hp2:=s3.cell hp1 hpo (fun hm=>by
   rcases r3.2 _ hm with hq | hq
   ·exact hpx hq
   ·rw [List.length_append,List.length_singleton] at hq;omega)
  have hfp:=((Fp.push o H xv [AObj.cells (reC h x)]).trans r3).trans s3
  simp only [box_re,go_sem,ld_lo hp,e1,reprog_builder_repeat_J1_eq,r1,ld_args hp1,hix,re_cells,aload_vp_re,s1,ld_hi hp2]
  by_cases h0:h.hi < 0
  ·have e0:decide (h.hi < 0)=true:=decide_eq_true h0
   obtain ⟨x3,H3,t1,t2,t3⟩:=add_run { opI 3 with x:=(addK s:Int) } s2
   have hk:addK s < (addB { opI 3 with x:=(addK s:Int) } (treeB e (splitB s))).1.length:=Nat.lt_of_lt_of_le (splitK_lt s) (Nat.le_trans (treeB_len _ _) (addB_len _ _))
   obtain ⟨p,pj,H4,u1,u2,u3,u4,u5⟩:=t2.setY hk (((addB { opI 3 with x:=(addK s:Int) } (treeB e (splitB s))).1.length:Nat):Int)
   have e2:((afill [(0,1,(.int .i64 3)),(5,1,.int .i64 (addK s:Int))] [(.int .i64 0),(.int .u64 0),(.int .u64 0),(.int .u64 0),(.int .u64 0),(.int .i64 0),(.int .i64 0)]).map AV.agg)=some (inV { opI 3 with x:=(addK s:Int) }):=rfl
   simp only [if_pos h0]
   simp only [e0,go_sem,e2,t1,reprog_builder_repeat_J2_eq,t2.ld0,t2.len,u1,u2,u3]
   exact ⟨x3,H4,rfl,u4,(hfp.trans t3).trans u5⟩
  ·have e0:decide (h.hi < 0)=false:=decide_eq_false h0
   have hk:addK s < (treeB e (splitB s)).1.length:=Nat.lt_of_lt_of_le (splitK_lt s) (treeB_len _ _)
   obtain ⟨p,pj,H4,u1,u2,u3,u4,u5⟩:=s2.setY hk (((treeB e (splitB s)).1.length:Nat):Int)
   simp only [if_neg h0]
   simp only [e0,go_sem,reprog_builder_repeat_J2_eq,s2.ld0,s2.len,u1,u2,u3]
   exact ⟨x2,H4,rfl,u4,hfp.trans u5⟩
theorem tree_run (e:Rt) (hr:r1M e=true) (hw:wd e≤1000):TreeRun e:=by
 induction e using Rt.ind with
 | h hd args ih =>
  intro a H o xv s ha hB
  obtain ⟨x,l,rfl,hx,hl⟩:=ha.out
  have hl:RtL args l:=hl
  rw [r1M_eq,Bool.and_eq_true] at hr
  obtain ⟨hr1,hr2⟩:=hr
  rw [r1L_iff] at hr2
  rw [wd_eq] at hw
  have hk:∀ e ∈ args,TreeRun e:=fun e he=>ih e he (hr2 e he) (by have:=wd_mem he;omega)
  have hp:=get_push_len H (AObj.cells (reC hd x)) []
  have hB1:=hB.push [AObj.cells (reC hd x)]
  have hpush:=Fp.push o H xv [AObj.cells (reC hd x)]
  rw [F_reprog_builder_tree_eq]
  unfold F_reprog_builder_tree
  simp only [Rt.hd,box_re,go_sem,hB1.ld1]
  cases hov:s.2 with
  | true =>
   rw [treeB_eq,if_pos hov]
   simp only [cnd_t]
   exact ⟨xv,_,rfl,hB1,hpush⟩
  | false =>
   simp only [cnd_f,reprog_builder_tree_J1_eq,go_sem,ld_op hp]
   by_cases h2:hd.op=2
   ·have e2:(hd.op == 2)=true:=by simp [h2]
    rw [treeB_eq,if_neg (by simp [hov]),if_pos h2]
    have el:aload true 4 (.ptr H.length (0+1)) (H++[AObj.cells (reC hd x)])=some (.agg [.int .u64 hd.b0,.int .u64 hd.b1,.int .u64 hd.b2,.int .u64 hd.b3]):=by rw [aload_of hp];rfl
    have ef:((afill [(0,1,(.int .i64 1)),(1,4,.agg [.int .u64 hd.b0,.int .u64 hd.b1,.int .u64 hd.b2,.int .u64 hd.b3])] [(.int .i64 0),(.int .u64 0),(.int .u64 0),(.int .u64 0),(.int .u64 0),(.int .i64 0),(.int .i64 0)]).map AV.agg)=some (inV (setI hd)):=rfl
    obtain ⟨x1,H1,r1,r2,r3⟩:=add_run (setI hd) hB1
    simp only [e2,go_sem,el,ef,r1]
    exact ⟨x1,H1,rfl,r2,hpush.trans r3⟩
   have e2:(hd.op == 2)=false:=by simp [h2]
   by_cases h7:hd.op=7
   ·have e7:(hd.op == 7)=true:=by simp [h7]
    rw [treeB_eq,if_neg (by simp [hov]),if_neg h2,if_pos h7]
    have ef:((afill [(0,1,(.int .i64 4))] [(.int .i64 0),(.int .u64 0),(.int .u64 0),(.int .u64 0),(.int .u64 0),(.int .i64 0),(.int .i64 0)]).map AV.agg)=some (inV (opI 4)):=rfl
    obtain ⟨x1,H1,r1,r2,r3⟩:=add_run (opI 4) hB1
    simp only [e2,e7,go_sem,ef,r1]
    exact ⟨x1,H1,rfl,r2,hpush.trans r3⟩
   have e7:(hd.op == 7)=false:=by simp [h7]
   by_cases h8:hd.op=8
   ·have e8:(hd.op == 8)=true:=by simp [h8]
    rw [treeB_eq,if_neg (by simp [hov]),if_neg h2,if_neg h7,if_pos h8]
    have ef:((afill [(0,1,(.int .i64 5))] [(.int .i64 0),(.int .u64 0),(.int .u64 0),(.int .u64 0),(.int .u64 0),(.int .i64 0),(.int .i64 0)]).map AV.agg)=some (inV (opI 5)):=rfl
    obtain ⟨x1,H1,r1,r2,r3⟩:=add_run (opI 5) hB1
    simp only [e2,e7,e8,go_sem,ef,r1]
    exact ⟨x1,H1,rfl,r2,hpush.trans r3⟩
   have e8:(hd.op == 8)=false:=by simp [h8]
   by_cases h4:hd.op=4
   ·have e4:(hd.op == 4)=true:=by simp [h4]
    rw [treeB_eq,if_neg (by simp [hov]),if_neg h2,if_neg h7,if_neg h8,if_pos h4]
    obtain ⟨x1,H1,r1,r2,r3⟩:=alt_loop hx hl hk (o:=o) (Hb:=H++[AObj.cells (reC hd x)]) (xb:=xv) (by omega) (lt_of_get hB1.obj) (H++[AObj.cells (reC hd x)]) args.length 0 s [] .nils xv (H++[AObj.cells (reC hd x)]) rfl (by omega) hB1 (.inl ⟨rfl,rfl⟩) (fun q hq=>by cases hq) (by simp) (by simp) (Fp.refl _ _ _)
    rw [List.drop_zero] at r2
    have i0:(((0:Nat):Int))=0:=rfl
    rw [i0] at r1
    have hC:C_reprog_builder_alt [.ptr o 0,x] (H++[AObj.cells (reC hd x)])=some (.tuple [],H1):=by
     rw [F_reprog_builder_alt_eq]
     unfold F_reprog_builder_alt
     simp only [hx.len,bnd_some,hl.1]
     exact r1
    simp only [e2,e7,e8,e4,go_sem,ld_args hp,hC]
    exact ⟨x1,H1,rfl,r2,hpush.trans r3⟩
   have e4:(hd.op == 4)=false:=by simp [h4]
   by_cases h5:hd.op=5
   ·have e5:(hd.op == 5)=true:=by simp [h5]
    cases args with
    | nil=>simp [h5] at hr1
    | cons e l' =>
     obtain ⟨x1,H1,r1,r2,r3⟩:=rep_run hx hl (hk e (by simp)) hB1 h5 hov
     simp only [e2,e7,e8,e4,e5,go_sem,ld_re hp,r1]
     exact ⟨x1,H1,rfl,r2,hpush.trans r3⟩
   ·have e5:(hd.op == 5)=false:=by simp [h5]
    rw [treeB_eq,if_neg (by simp [hov]),if_neg h2,if_neg h7,if_neg h8,if_neg h4,if_neg h5]
    obtain ⟨x1,H1,r1,r2,r3⟩:=seq_loop hx hl hk (by omega) H args.length 0 s xv _ rfl (by omega) hB1
    have i0:(((0:Nat):Int))=0:=rfl
    rw [i0] at r1
    simp only [e2,e7,e8,e4,e5,go_sem,ld_args hp,hx.len,hl.1,r1]
    rw [List.drop_zero] at r2
    exact ⟨x1,H1,rfl,r2,hpush.trans r3⟩
theorem chunks_flat {k:Nat}:∀ (L:List AV),(∀ a ∈ L,ElOk true k a)→chunks true k L.length (flat L)=L
 | [],_=>rfl
 | a :: L,h=>by
  obtain ⟨h1,h2,h3⟩:=h a (by simp)
  simp only [if_true] at h3
  rw [List.length_cons,chunks,flat_cons,List.take_left' h1,List.drop_left' h1,chunks_flat L fun b hb=>h b (by simp [hb]),if_pos rfl,← h3]
def progR (e:Rt):Bs:=addB (opI 6) (treeB (expM e) ([],false))
def compM (e:Rt):List In × Int :=
 if checkM e ≠ 0 then ([],checkM e) else if 0 < cntM 9 e then ([],7) else if 4096 < weighM e then ([],3) else if (progR e).2=true then ([],3) else ((progR e).1,0)
theorem close_in (H:Hp) (f:Nat) (i:In):closeV H 0 (f+2) (inV i)=some (inV i):=by
 unfold inV inC
 rw [closeV]
 simp only [List.mapM_cons,List.mapM_nil,close_int]
 rfl
theorem close_ws {H:Hp} {f k o e n:Nat} {ag:Bool} {l l':List AV} (h1:elems k (.ws ag k o e n) H=some l) (h2:l.mapM (closeV H 0 f)=some l'):closeV H 0 (f+1) (.ws ag k o e n)=some (.vs k .no l'):=by
 simp only [closeV,h1,h2,Nat.not_lt_zero,if_false]
theorem close_rw {H:Hp} {x:AV} {c:List In} (h:RwW H true 7 x (c.map inV)) (f:Nat):∃ y,closeV H 0 (f+3) x=some y∧SlC 7 y (c.map inV):=by
 rcases h with ⟨rfl,h2⟩ | ⟨o,e,rfl,h2⟩
 ·exact ⟨.nils,rfl,.inl ⟨rfl,h2⟩⟩
 ·refine ⟨.vs 7 .no (c.map inV),?_,.inr (.inl rfl)⟩
  have hel:elems 7 (.ws true 7 o e (c.map inV).length) H=some (c.map inV):=by
   unfold elems
   simp only [h2,true_or,and_self,true_and,if_true]
   rw [if_pos (by rw [flat_len_of (inL_ok c)];exact Nat.le_refl _),chunks_flat _ (inL_ok c)]
  have hm:(c.map inV).mapM (closeV H 0 (f+2))=some (c.map inV):=mapM_self fun a ha=>by
   obtain ⟨i,_,rfl⟩:=List.mem_map.1 ha
   exact close_in H f i
  exact close_ws hel hm
theorem close_prog {H:Hp} {f:Nat} {x y:AV} {b:Bool} (h:closeV H 0 (f+1) x=some y) (n:Int):closeV H 0 (f+3) (.tuple [.agg [x,.bool b],.int .i64 n])=some (.tuple [.agg [y,.bool b],.int .i64 n]):=by
 have h1:closeV H 0 (f+2) (.agg [x,.bool b])=some (.agg [y,.bool b]):=by
  rw [closeV]
  simp only [List.mapM_cons,List.mapM_nil,h,close_bool]
  rfl
 rw [closeV]
 simp only [List.mapM_cons,List.mapM_nil,h1,close_int]
 rfl
theorem closeB {e:Rt} {a:AV} (h:RtC e a) (hd:dep e≤190) (b:Bool):[a,.bool b].mapM (closeV [] 0 400)=some [a,.bool b]:=mapM_self fun x hx=>by
 simp at hx
 rcases hx with rfl | rfl
 ·exact h.close [] 0 400 (by omega)
 ·rfl
theorem compile_run {e : Rt} {a : AV} (ha : RtC e a) (hd : dep e ≤ 55) (hz : siz e ≤ 800) (lines : Bool) :
    ∃ x,SlC 7 x ((compM e).1.map inV)∧∀ H,flatC C_reprog_Compile [a,.bool lines] H=some (.tuple [.agg [x,.bool (if (compM e).2=0 then lines else false)],.int .i64 (compM e).2],H):=by
 have hcl:=closeB ha (by omega) lines
 have hck:=check_run ha (by omega) (by omega)
 have hbk:=back_run ha (by omega) (by omega)
 obtain ⟨ye,hye,hE⟩:=Expand_run ha hd (by omega)
 have ha0:=ha
 have hF0:=fun x=>F_reprog_Compile_eq (reV e.hd x) (.bool lines) []
 obtain ⟨x,l,rfl,hx,hl⟩:=ha.out
 have hF:=hF0 x
 unfold F_reprog_Compile at hF
 have g0:((([]:Hp)++[AObj.cells (reC e.hd x)])++[AObj.cells [.nils,(.bool false)]])[([]:Hp).length]?=some (.cells (reC e.hd x)):=by simp
 have l0:([]:Hp).length=0:=rfl
 have l1:(([]:Hp)++[AObj.cells (reC e.hd x)]).length=1:=rfl
 obtain ⟨Hb,hHb⟩:∃ Hb:Hp,Hb=(([]:Hp)++[AObj.cells (reC e.hd x)])++[AObj.cells [.nils,(.bool false)]]:=⟨_,rfl⟩
 rw [← hHb,l0] at g0
 have g1:Hb[1]?=some (.cells [.nils,.bool false]):=by rw [hHb];rfl
 have lb:Hb.length=2:=by rw [hHb];rfl
 -- the end of all ways
 have fin : ∀ {Hc : Hp} {c : List AV} (z : AV) (b : Bool) (n : Int), Hc[1]? = some (.cells c) → c.length = 2 → z.cells = [z] ∧ z.known = true →
     (bnd (astoreU 2 (.ptr 1 0) (.agg [z,.bool b]) Hc) fun r=>bnd (aload true 2 (.ptr 1 0) r.2) fun v=>some (AV.tuple [v,.int .i64 n],r.2))=some (AV.tuple [.agg [z,.bool b],.int .i64 n],Hc.set 1 (.cells [z,.bool b])):=by
  intro Hc c z b n hq hc hz
  have hd:c.drop 2=[]:=List.drop_eq_nil_iff.2 (by omega)
  rw [astore_of (sz:=2) (v:=.agg [z,.bool b]) hq rfl rfl (by omega),bnd_some]
  have:splice c 0 (AV.agg [z,.bool b]).cells=[z,.bool b]:=by simp [splice,AV.cells,hd]
  rw [this,aload_of (get_set_eq _ hq)]
  rfl
 have zero : ∀ {Hc : Hp} (n : Int), Hc[1]? = some (.cells [.nils, .bool false]) → C_reprog_Compile [reV e.hd x, .bool lines] [] = (bnd (astoreU 2 (.ptr 1 0) (.agg [.nils, .bool false]) Hc) fun r => bnd (aload true 2 (.ptr 1 0) r.2) fun v => some (AV.tuple [v, .int .i64 n], r.2)) →
     ∀ H,flatC C_reprog_Compile [reV e.hd x,.bool lines] H=some (.tuple [.agg [.nils,.bool false],.int .i64 n],H):=by
  intro Hc n hq hC H
  rw [fin .nils false n hq rfl ⟨rfl,rfl⟩] at hC
  exact flatC_cl hcl hC (close_prog (f:=397) rfl n)
 simp only [box_re,bnd_some,l0,l1,← hHb,ld_re g0,hck,ibin_neq] at hF
 unfold compM
 by_cases h0:checkM e=0
 ·have e0:(checkM e != 0)=false:=by simp [h0]
  obtain ⟨k1,k2,k3,k4,_,_⟩:=check_ok h0
  rw [if_neg (by simpa using h0)]
  simp only [e0,cnd_f,reprog_Compile_J1_eq,ld_re g0,bnd_some,hbk] at hF
  by_cases hbk0:0 < cntM 9 e
  ·have e1:decide ((0:Int) < (cntM 9 e:Int))=true:=decide_eq_true (by omega)
   rw [if_pos hbk0]
   simp only [e1,cnd_t,bnd_some] at hF
   refine ⟨.nils,.inl ⟨rfl,rfl⟩,fun H=>?_⟩
   rw [if_neg (by decide)]
   exact zero 7 g1 hF H
  ·have e1:decide ((0:Int) < (cntM 9 e:Int))=false:=decide_eq_false (by omega)
   rw [if_neg hbk0]
   simp only [e1,cnd_f,reprog_Compile_J2_eq,ld_re g0,bnd_some,hE,lb] at hF
   have hx0:aext (.tuple [ye,.int .i64 (expR e).2]) 0=some ye:=rfl
   have hx1:aext (.tuple [ye,.int .i64 (expR e).2]) 1=some (.int .i64 (expR e).2):=rfl
   obtain ⟨xe,le,hxe,hsx,hlx⟩:=hye.out
   have hal:=alloc_re Hb (expR e).1.hd xe
   rw [lb,← hxe] at hal
   simp only [hx0,hx1,bnd_some,hal,ibin_neq] at hF
   have g1':=get_push g1 [AObj.cells (reC (expR e).1.hd xe)]
   have heR:expR e=if 4096 < weighM e then (.mk zH [],3) else (expM e,0):=by unfold expR;rw [if_neg (by simpa using h0)]
   by_cases hw:4096 < weighM e
   ·rw [if_pos hw] at heR ⊢
    have e2:((expR e).2 != 0)=true:=by rw [heR];rfl
    have e3:(expR e).2=3:=by rw [heR]
    simp only [e2,cnd_t,bnd_some] at hF
    rw [e3] at hF
    refine ⟨.nils,.inl ⟨rfl,rfl⟩,fun H=>?_⟩
    rw [if_neg (by decide)]
    exact zero 3 g1' hF H
   ·rw [if_neg hw] at heR ⊢
    have e2:((expR e).2 != 0)=false:=by rw [heR];rfl
    have eE:(expR e).1=expM e:=by rw [heR]
    rw [eE] at hye hxe g1' hal
    have hws:=wd_siz e
    have hwx:=wd_exp e k2
    have gp:(Hb++[AObj.cells (reC (expM e).hd xe)])[2]?=some (.cells (reC (expM e).hd xe)):=by rw [← lb];exact get_push_len Hb _ []
    have ez:(.agg [.nils,.bool false]:AV)=.agg [.nils,.bool false]:=rfl
    simp only [e2,cnd_f,reprog_Compile_J3_eq,bnd_some] at hF
    rw [eE] at hF
    -- the builder
    obtain ⟨Hd,hHd⟩:∃ Hd:Hp,Hd=(Hb++[AObj.cells (reC (expM e).hd xe)])++[AObj.cells [.nils,.bool false]]:=⟨_,rfl⟩
    have hbx:abox (.agg [.nils,.bool false]) (Hb++[AObj.cells (reC (expM e).hd xe)])=some (.ptr 3 0,Hd):=by
     rw [abox_of rfl,hHd]
     simp [lb,AV.cells]
    have gp':Hd[2]?=some (.cells (reC (expM e).hd xe)):=by rw [hHd];exact get_push gp _
    have g1d:Hd[1]?=some (.cells [.nils,.bool false]):=by rw [hHd];exact get_push g1' _
    have hB0:BdAt Hd 3 .nils ([],false):=⟨by rw [hHd];simp [lb],.inl ⟨rfl,rfl⟩,by simp⟩
    obtain ⟨x1,H1,r1,r2,r3⟩:=tree_run (expM e) (r1_exp e k1) (by omega) _ Hd 3 .nils ([],false) hye hB0
    obtain ⟨x2,H2,s1,s2,s3⟩:=add_run (opI 6) r2
    have hfp:=r3.trans s3
    have g12:H2[1]?=some (.cells [.nils,.bool false]):=hfp.cell g1d (by omega) (by simp [rowA])
    have e6:((afill [(0,1,(.int .i64 6))] [(.int .i64 0),(.int .u64 0),(.int .u64 0),(.int .u64 0),(.int .u64 0),(.int .i64 0),(.int .i64 0)]).map AV.agg)=some (inV (opI 6)):=rfl
    rw [hxe] at r1
    simp only [hbx,bnd_some,ld_re gp',r1,e6,s1,anil_ptr,afield_ptr,s2.ld1] at hF
    show ∃ x,_
    cases hov:(progR e).2 with
    | true =>
     have hov':(addB (opI 6) (treeB (expM e) ([],false))).2=true:=hov
     rw [if_pos rfl]
     simp only [hov',cnd_t,bnd_some] at hF
     refine ⟨.nils,.inl ⟨rfl,rfl⟩,fun H=>?_⟩
     rw [if_neg (by decide)]
     exact zero 3 g12 hF H
    | false =>
     have hov':(addB (opI 6) (treeB (expM e) ([],false))).2=false:=hov
     rw [if_neg (by decide)]
     obtain ⟨kc,kk⟩:=s2.row.rw.known
     have e7:((afill [(0,1,x2),(1,1,.bool lines)] [.nils,(.bool false)]).map AV.agg)=some (.agg [x2,.bool lines]):=by
      unfold afill
      rw [if_pos ⟨kk,by rw [kc];rfl,by simp⟩,kc]
      rfl
     simp only [hov',cnd_f,reprog_Compile_J4_eq,anil_ptr,afield_ptr,bnd_some,s2.ld0,e7] at hF
     rw [fin x2 lines 0 g12 rfl s2.row.rw.known] at hF
     have hne:∀ a ∈ rowA x2,a ∉ [1]:=fun a ha hm=>by
      rw [List.mem_singleton.1 hm] at ha
      exact s2.row.rw.notrow g12 ha
     have hrow:=s2.row.kept (Kpt.set (W:=[1]) (o:=1) H2 (.cells [x2,.bool lines]) (by simp)) hne
     obtain ⟨y,q1,q2⟩:=close_rw hrow 395
     refine ⟨y,q2,fun H=>?_⟩
     rw [if_pos rfl]
     exact flatC_cl hcl hF (close_prog (f:=397) q1 0)
 ·have e0:(checkM e != 0)=true:=by simp [h0]
  rw [if_pos h0]
  simp only [e0,cnd_t,bnd_some] at hF
  refine ⟨.nils,.inl ⟨rfl,rfl⟩,fun H=>?_⟩
  rw [if_neg h0]
  exact zero _ g1 hF H
end Go.Am
namespace Go.Am
set_option linter.unusedSimpArgs false
set_option linter.unusedVariables false
set_option maxRecDepth 100000

def bitsOf (i:In) (n:Nat):Int:=if n=0 then i.b0 else if n=1 then i.b1 else if n=2 then i.b2 else i.b3
def hasM (i:In) (c:UInt8):Bool:=IntKind.u64.wrap (((BitVec.ofInt IntKind.u64.bits ((bitsOf i (c.toNat / 64)).fdiv (2 ^ (min ((c.toNat % 64:Nat):Int).toNat IntKind.u64.bits))) &&& BitVec.ofInt IntKind.u64.bits 1).toNat:Nat):Int) == 1
theorem has_run (i:In) (c:UInt8) (H:Hp):flatC C_charset_Has [.agg [.int .u64 i.b0,.int .u64 i.b1,.int .u64 i.b2,.int .u64 i.b3],.int .u8 (c.toNat:Int)] H=some (.bool (hasM i c),H):=by
 have hc:c.toNat < 256:=c.toNat_lt
 have hcl:[AV.agg [.int .u64 i.b0,.int .u64 i.b1,.int .u64 i.b2,.int .u64 i.b3],.int .u8 (c.toNat:Int)].mapM (closeV [] 0 400)=some [AV.agg [.int .u64 i.b0,.int .u64 i.b1,.int .u64 i.b2,.int .u64 i.b3],.int .u8 (c.toNat:Int)]:=mapM_self fun x hx=>closeV_flat [] 3 400 x (by omega) (by
  simp at hx
  rcases hx with rfl | rfl <;> rfl)
 refine flatC_of hcl (H1:=[.cells [.int .u64 i.b0,.int .u64 i.b1,.int .u64 i.b2,.int .u64 i.b3]]) ?_ rfl
 rw [F_charset_Has_eq]
 unfold F_charset_Has
 have w8:∀ n:Int,0≤n→n < 256→IntKind.u8.wrap n=n:=fun n h0 h1=>by
  unfold IntKind.wrap
  have e1:(2 ^ IntKind.u8.bits:Int)=256:=by decide
  have e3:IntKind.u8.signed=false:=rfl
  simp only [e1,e3,Bool.false_and,Bool.false_eq_true,if_false]
  omega
 have hd:((c.toNat:Int).tdiv 64)=((c.toNat / 64:Nat):Int):=by rw [Int.tdiv_eq_ediv_of_nonneg (by omega)];omega
 have hr:((c.toNat:Int).tmod 64)=((c.toNat % 64:Nat):Int):=by rw [Int.tmod_eq_emod_of_nonneg (by omega)];omega
 have q1:ibin .quo (.int .u8 (c.toNat:Int)) (.int .u8 64)=some (.int .u8 ((c.toNat / 64:Nat):Int)):=by
  simp only [ibin,ashift,intbin,if_true]
  rw [if_neg (by decide),hd,w8 _ (by omega) (by omega)]
 have q2:ibin .rem (.int .u8 (c.toNat:Int)) (.int .u8 64)=some (.int .u8 ((c.toNat % 64:Nat):Int)):=by
  simp only [ibin,ashift,intbin,if_true]
  rw [if_neg (by decide),hr]
 have hn:c.toNat / 64 < 4:=by omega
 have hb:abox (.agg [.int .u64 i.b0,.int .u64 i.b1,.int .u64 i.b2,.int .u64 i.b3]) []=some (.ptr 0 0,[.cells [.int .u64 i.b0,.int .u64 i.b1,.int .u64 i.b2,.int .u64 i.b3]]):=rfl
 have q3:aindexA 4 1 (.ptr 0 (0+0)) (.int .u8 ((c.toNat / 64:Nat):Int))=some (.ptr 0 (0+0+(c.toNat / 64) * 1)):=by
  unfold aindexA
  dsimp only
  rw [if_pos (by omega),Int.toNat_natCast]
  rfl
 have q4:aload false 1 (.ptr 0 (0+0+(c.toNat / 64) * 1)) [.cells [.int .u64 i.b0,.int .u64 i.b1,.int .u64 i.b2,.int .u64 i.b3]]=some (.int .u64 (bitsOf i (c.toNat / 64))):=by
  rw [aload_of (l:=[.int .u64 i.b0,.int .u64 i.b1,.int .u64 i.b2,.int .u64 i.b3]) rfl]
  generalize c.toNat / 64=n at hn
  have:n=0 ∨ n=1 ∨ n=2 ∨ n=3:=by omega
  rcases this with rfl | rfl | rfl | rfl <;> rfl
 have q5:∀ b n:Int,0≤n→ibin .shr (.int .u64 b) (.int .u8 n)=some (.int .u64 (b.fdiv (2 ^ (min n.toNat IntKind.u64.bits)))):=fun b n h=>by
  simp only [ibin,ashift]
  rw [if_neg (by omega)]
 have q6:∀ a b:Int,ibin .and (.int .u64 a) (.int .u64 b)=some (.int .u64 (IntKind.u64.wrap ((BitVec.ofInt IntKind.u64.bits a &&& BitVec.ofInt IntKind.u64.bits b).toNat:Int))):=fun a b=>by simp only [ibin,ashift,intbin,if_true]
 simp only [hb,bnd_some,q1,afield_ptr,q3,q4,q2]
 rw [q5 _ _ (by omega),bnd_some,q6,bnd_some,ibin_eql,bnd_some]
 rfl
theorem close_slc {k:Nat} {x:AV} {c:List In} (hx:SlC k x (c.map inV)) (H:Hp) (n f:Nat):closeV H n (f+3) x=some x:=close_sl hx fun a ha=>by
 obtain ⟨i,_,rfl⟩:=List.mem_map.1 ha
 unfold inV inC
 rw [closeV]
 simp only [List.mapM_cons,List.mapM_nil,close_int]
 rfl
theorem close_ag {H:Hp} {n f:Nat} {x:AV} {b:Bool} (h:closeV H n (f+1) x=some x):closeV H n (f+2) (.agg [x,.bool b])=some (.agg [x,.bool b]):=by
 rw [closeV]
 simp only [List.mapM_cons,List.mapM_nil,h,close_bool]
 rfl
theorem fcompile_run {e : Rt} {a : AV} (ha : RtC e a) (hd : dep e ≤ 55) (hz : siz e ≤ 800) {H : Hp} {fo : Nat} {s : List UInt8} {lines : Bool} {spv : AV} (hF : FdAt H fo s lines spv) :
    ∃ x b,SlC 7 x ((compM e).1.map inV)∧roC C_recapture_finder_compile [.ptr fo 0,a] H=some (.agg [x,.bool b],H):=by
 obtain ⟨x,hx,hC⟩:=compile_run ha hd hz lines
 obtain ⟨xa,la,rfl,_,_⟩:=ha.out
 obtain ⟨kc,kk⟩:=hx.known
 generalize hb:(if (compM e).2=0 then lines else false)=b at hC
 have hst:∀ (w:Hp) (c:List AV) (q:Nat),w[q]?=some (.cells c)→c.length=2→astoreU 2 (.ptr q 0) (.agg [x,.bool b]) w=some (.tuple [],w.set q (.cells [x,.bool b])):=fun w c q hq hc=>by
  have hd:c.drop 2=[]:=List.drop_eq_nil_iff.2 (by omega)
  rw [astore_of (sz:=2) (v:=.agg [x,.bool b]) hq rfl rfl (by omega)]
  simp [splice,AV.cells,hd]
 have hld:∀ (w:Hp) (q:Nat),w[q]?=some (.cells [x,.bool b])→aload true 2 (.ptr q 0) w=some (.agg [x,.bool b]):=fun w q hq=>by rw [aload_of hq];rfl
 have g0:((H++[AObj.cells (reC e.hd xa)])++[AObj.cells [.nils,(.bool false)]])[H.length]?=some (.cells (reC e.hd xa)):=by simp
 have gF:FdAt ((H++[AObj.cells (reC e.hd xa)])++[AObj.cells [.nils,(.bool false)]]) fo s lines spv:=get_push (get_push hF _) _
 obtain ⟨W,hW⟩:∃ W:Hp,W=(H++[AObj.cells (reC e.hd xa)])++[AObj.cells [.nils,(.bool false)]]:=⟨_,rfl⟩
 have lW:(H++[AObj.cells (reC e.hd xa)]).length=H.length+1:=by simp
 have lW2:W.length=H.length+2:=by rw [hW];simp
 rw [← hW] at g0 gF
 have g1:W[H.length+1]?=some (.cells [.nils,.bool false]):=by rw [hW];simp
 have g1':=get_push g1 [AObj.cells [.nils,(.bool false)]]
 have g2:=get_push_len W (AObj.cells [.nils,(.bool false)]) []
 rw [lW2] at g2
 have g3:=get_set_eq (.cells [x,.bool b]) g2
 have g1'':=get_set_ne (.cells [x,.bool b]) (show H.length+2 ≠ H.length+1 by omega) g1'
 have x0:aext (.tuple [.agg [x,.bool b],.int .i64 (compM e).2]) 0=some (.agg [x,.bool b]):=rfl
 have x1:aext (.tuple [.agg [x,.bool b],.int .i64 (compM e).2]) 1=some (.int .i64 (compM e).2):=rfl
 have key:C_recapture_finder_compile [.ptr fo 0,reV e.hd xa] H=some (.agg [x,.bool b],(((W++[AObj.cells [.nils,(.bool false)]]).set (H.length+2) (.cells [x,.bool b])).set (H.length+1) (.cells [x,.bool b]))):=by
  rw [F_recapture_finder_compile_eq]
  unfold F_recapture_finder_compile
  simp only [box_re,bnd_some,lW,← hW,ld_re g0,anil_ptr,afield_ptr,gF.ldL,hC,x0,x1,lW2,hst _ _ _ g2 rfl,hld _ _ g3,hst _ _ _ g1'' rfl,hld _ _ (get_set_eq _ g1'')]
 refine ⟨x,b,hx,ro_of key ?_ (close_ag (f:=398) (close_slc hx _ _ 396))⟩
 rw [List.take_set_of_le (by omega),List.take_set_of_le (by omega),hW]
 simp
theorem amake_bl (n:Nat) (h0:0 < n) (h1:n≤5000000) (H:Hp):amake 1 1 false (.bool false) (.int .i64 (n:Int)) (.int .i64 (n:Int)) H=some (blV H.length (List.replicate n false),H++[.cells (bL (List.replicate n false))]):=by
 have hfit:fits n 1=true:=by simp [fits];omega
 have hfl:∀ m:Nat,(List.replicate m (AV.bool false).cells).flatten=bL (List.replicate m false):=by
  intro m
  induction m with
  | zero=>rfl
  | succ m ih=>rw [List.replicate_succ,List.flatten_cons,ih];rfl
 unfold amake
 dsimp only
 rw [if_pos ⟨by omega,by omega,rfl,rfl,by omega,by rw [Int.toNat_natCast];exact hfit⟩,if_neg (by omega),Int.toNat_natCast,hfl]
 simp [blV]
def markM (n:Nat) (t:List Nat):List Bool:=t.foldl (fun sn k=>sn.set k true) (List.replicate n false)
theorem markF_len (t:List Nat):∀ sn:List Bool,(t.foldl (fun sn k=>sn.set k true) sn).length=sn.length:=by
 induction t with
 | nil=>intro sn;rfl
 | cons k l ih=>intro sn;rw [List.foldl_cons,ih];simp
theorem markF_count:∀ (t:List Nat) (sn:List Bool),t.Nodup→(∀ k ∈ t,k < sn.length∧sn.getD k false=false)→(t.foldl (fun sn k=>sn.set k true) sn).count false+t.length=sn.count false
 | [],sn,_,_=>by simp
 | k :: l,sn,hn,h=>by
  obtain ⟨h1,h2⟩:=h k (by simp)
  obtain ⟨hk,hl⟩:=List.nodup_cons.1 hn
  have hc:=count_set h1 h2
  have ih:=markF_count l (sn.set k true) hl fun q hq=>by
   obtain ⟨g1,g2⟩:=h q (by simp [hq])
   refine ⟨by simpa using g1,?_⟩
   have hne:k ≠ q:=fun he=>hk (he ▸ hq)
   rw [List.getD_eq_getElem?_getD,List.getElem?_set_ne hne,← List.getD_eq_getElem?_getD]
   exact g2
  rw [List.foldl_cons,List.length_cons]
  omega
theorem mark_ok {p:List In} {t:List Nat} (hn:t.Nodup) (hl:∀ k ∈ t,k < p.length):ThOk p t (markM p.length t):=by
 have h1:=markF_len t (List.replicate p.length false)
 have h2:=markF_count t (List.replicate p.length false) hn fun k hk=>by
  have:=hl k hk
  exact ⟨by simpa using this,by rw [List.getD_eq_getElem?_getD,List.getElem?_replicate,if_pos this];rfl⟩
 refine ⟨by unfold markM;rw [h1];simp,hl,?_⟩
 unfold markM
 rw [List.count_replicate_self] at h2
 omega
theorem mark_loop {fo so : Nat} {t : List Nat} {x0 x3 x5 x9 x10 x11 x12 x13 : AV} {n : Nat} (hl : ∀ k ∈ t, k < n) (hb : t.length ≤ 1000000) (H0 : Hp) :
    ∀ (k i:Nat) (sn:List Bool) (Hc:Hp),t.length - i=k→i≤t.length→sn.length=n→BlAt Hc so sn→Rw Hc false 1 x11 (jV t) →
    recapture_finder_reach_L3 x0 x3 x5 x9 x10 x11 x12 x13 (blV so sn) x11 (.int .i64 (t.length:Int)) (.int .i64 (i:Int)) H0 Hc =
     recapture_finder_reach_J6 x0 x3 x5 x9 x10 x11 x12 x13 (blV so ((t.drop i).foldl (fun sn k=>sn.set k true) sn)) H0 (Hc.set so (.cells (bL ((t.drop i).foldl (fun sn k=>sn.set k true) sn)))):=by
 intro k
 induction k with
 | zero =>
  intro i sn Hc hk hi hn hm hr
  have hlt:decide ((i:Int) < (t.length:Int))=false:=decide_eq_false (by omega)
  have hdr:t.drop i=[]:=List.drop_eq_nil_iff.2 (by omega)
  rw [recapture_finder_reach_L3_eq,hdr]
  have hsame:Hc.set so (.cells (bL sn))=Hc:=by
   apply List.ext_getElem?
   intro q
   by_cases hq:q=so
   ·subst hq;rw [get_set_eq _ hm,hm]
   ·rw [List.getElem?_set_ne (Ne.symm hq)]
  simp only [go_sem,hlt,List.foldl_nil,hsame]
 | succ k ih =>
  intro i sn Hc hk hi hn hm hr
  have hL:i < t.length:=by omega
  have hlt:decide ((i:Int) < (t.length:Int))=true:=decide_eq_true (by omega)
  have hdr:=List.drop_eq_getElem_cons hL
  obtain ⟨q,q1,q2⟩:=hr.nidx hL
  have hg:t.getD i 0=t[i]:=by rw [List.getD_eq_getElem?_getD,List.getElem?_eq_getElem hL];rfl
  rw [hg] at q2
  have hkn:t[i] < sn.length:=by rw [hn];exact hl _ (List.getElem_mem hL)
  have hbs:blV so sn=blV so (sn.set t[i] true):=by simp [blV]
  have hk1:Kpt [so] Hc (Hc.set so (.cells (bL (sn.set t[i] true)))):=Kpt.set _ _ (by simp)
  have hsox:so ∉ rowA x11:=hr.notrow hm
  have:=ih (i+1) (sn.set t[i] true) (Hc.set so (.cells (bL (sn.set t[i] true)))) (by omega) (by omega) (by simpa using hn) (get_set_eq _ hm) (hr.kept hk1 fun a ha hm=>hsox (by rw [List.mem_singleton.1 hm] at ha;exact ha))
  rw [recapture_finder_reach_L3_eq,hdr]
  simp only [go_sem,hlt,recapture_finder_reach_J10_eq,q1,q2,bl_idx so sn hkn,hm.st hkn,recapture_finder_reach_J11_eq,wsucc (n:=i) (by omega)]
  rw [hbs,this,List.set_set,List.foldl_cons]
def nextS (p:List In) (c:UInt8) (st:List Nat × List Bool) (k:Nat):List Nat × List Bool:=if (inAt p k).op=1∧hasM (inAt p k) c=true then visitM p (k+1) st else st
def nextM (p:List In) (c:UInt8) (all:List Nat):List Nat:=(all.foldl (nextS p c) ([],List.replicate p.length false)).1
def NdOk (t:List Nat) (sn:List Bool):Prop:=t.Nodup∧∀ k ∈ t,sn.getD k false=true
theorem visit_nd {p:List In} {t:List Nat} {sn:List Bool} (hl:sn.length=p.length) (h:NdOk t sn) (k:Nat):NdOk (visitM p k (t,sn)).1 (visitM p k (t,sn)).2:=by
 unfold visitM
 split
 ·rename_i hc
  refine ⟨?_,fun q hq=>?_⟩
  ·rw [List.nodup_append]
   refine ⟨h.1,by simp,fun a ha b hb=>?_⟩
   rw [List.mem_singleton.1 hb]
   intro he
   have:=h.2 a ha
   rw [he,hc.2] at this
   cases this
  ·by_cases he:k=q
   ·subst he
    rw [List.getD_eq_getElem?_getD,List.getElem?_set_self (by rw [hl];exact hc.1)]
    rfl
   ·rw [List.getD_eq_getElem?_getD,List.getElem?_set_ne he,← List.getD_eq_getElem?_getD]
    rcases List.mem_append.1 hq with h1 | h1
    ·exact h.2 q h1
    ·exact absurd (List.mem_singleton.1 h1).symm he
 ·exact h
theorem next_ok {p:List In} (c:UInt8):∀ (all:List Nat) (t:List Nat) (sn:List Bool),ThOk p t sn→NdOk t sn→ThOk p (all.foldl (nextS p c) (t,sn)).1 (all.foldl (nextS p c) (t,sn)).2∧NdOk (all.foldl (nextS p c) (t,sn)).1 (all.foldl (nextS p c) (t,sn)).2
 | [],t,sn,h,h'=>⟨h,h'⟩
 | k :: l,t,sn,h,h'=>by
  rw [List.foldl_cons]
  have hs:ThOk p (nextS p c (t,sn) k).1 (nextS p c (t,sn) k).2∧NdOk (nextS p c (t,sn) k).1 (nextS p c (t,sn) k).2:=by
   unfold nextS
   split
   ·exact ⟨(visit_ok h _).1,visit_nd h.len h' _⟩
   ·exact ⟨h,h'⟩
  exact next_ok c l _ _ hs.1 hs.2
theorem next_th {p:List In} (c:UInt8) (all:List Nat):(nextM p c all).Nodup∧∀ k ∈ nextM p c all,k < p.length:=by
 have h:=next_ok (p:=p) c all [] (List.replicate p.length false) ⟨by simp,by simp,by simp⟩ ⟨by simp,by simp⟩
 exact ⟨h.2.1,h.1.lt⟩
end Go.Am
