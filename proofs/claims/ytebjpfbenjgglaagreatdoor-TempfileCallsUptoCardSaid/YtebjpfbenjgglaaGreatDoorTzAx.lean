/-
  Lists and bytes in the machine.
-/
import Derived.Test.YtebjpfbenjgglaaGreatDoorTzGx
import Derived.Test.YtebjpfbenjgglaaGreatDoorEmSx
import Derived.Test.YtebjpfbenjgglaaGreatDoorEmXx
import Derived.Test.YtebjpfbenjgglaaGreatDoorTzSbx
import Derived.Test.YtebjpfbenjgglaaGreatDoorTzGSx
import Derived.Lib.ItoaLen
namespace Go.Am
set_option linter.unusedSimpArgs false
set_option linter.unusedVariables false
set_option linter.unusedSectionVars false
set_option maxRecDepth 100000
theorem aindexStr_of {s:List UInt8} {i:Nat} {b:UInt8} (h:s[i]?=some b):aindexStr (.str s) (.int .i64 (i:Int))=some (.int .u8 b.toNat):=by simp [aindexStr,h]
theorem get_last (H:Hp) (x:AObj):(H++[x])[H.length]?=some x:=get_push_len _ _ _
theorem aload_f1 {H:Hp} {o off:Nat} {l:List AV} (h:H[o]?=some (.cells l)):aload false 1 (.ptr o off) H=l[off]?:=by rw [aload_of h];simp [Go.Am.apart]

def Sl (k:Nat) (x:AV) (l:List AV):Prop:=x=.nils∧l=[] ∨ ∃ tok,x=.vs k tok l
theorem Sl.len {k:Nat} {x:AV} {l:List AV} (h:Sl k x l) (e:Nat):alenD (.slice e) x=some (.int .i64 l.length):=by
 rcases h with ⟨rfl,rfl⟩ | ⟨tok,rfl⟩ <;> rfl
theorem Sl.idx {k:Nat} {x:AV} {l:List AV} (h:Sl k x l) {i:Nat} {c:AV} (hi:l[i]?=some c):aindexS k x (.int .i64 (i:Int))=some (.vp c.cells):=by
 rcases h with ⟨rfl,rfl⟩ | ⟨tok,rfl⟩
 ·simp at hi
 ·simp [aindexS,hi]
theorem mapM_id {f:AV→Option AV}:∀ {l:List AV},(∀ x ∈ l,f x=some x)→l.mapM f=some l:=by
 intro l
 induction l with
 | nil=>intro _;rfl
 | cons a l ih =>
  intro h
  rw [List.mapM_cons,h a (by simp),ih (fun x hx=>h x (by simp [hx]))]
  rfl
theorem closeV_vs (H : Hp) (n f k : Nat) (tok : Tok) (l : List AV) : closeV H n (f + 1) (.vs k tok l) = match l.mapM (closeV H n f) with
      | some l=>some (.vs k (match tok with | .own t e=>if t < n then .own t e else .no | tok=>tok) l)
      | none=>none:=(Eq.refl _).trans (Eq.refl _)
theorem Sl.close {k:Nat} {x:AV} {l:List AV} (h:Sl k x l) {H:Hp} {n f:Nat} (hl:∀ c ∈ l,closeV H n f c=some c):∃ x',closeV H n (f+1) x=some x'∧Sl k x' l:=by
 rcases h with ⟨rfl,rfl⟩ | ⟨tok,rfl⟩
 ·exact ⟨.nils,rfl,.inl ⟨rfl,rfl⟩⟩
 ·have e:=closeV_vs H n f k tok l
  rw [mapM_id hl] at e
  exact ⟨_,e,.inr ⟨_,rfl⟩⟩
theorem flat1 {f:List AV→Hp→Res} {a a' v:AV} {H H1:Hp} (ha:closeV [] 0 6 a=some a') (hc:f [a'] []=some (v,H1)) (hv:flatV 3 v=true):flatC f [a] H=some (v,H) :=
 flatC_of (args':=[a']) (by simp [ha]) hc hv
theorem flat2 {f:List AV→Hp→Res} {a a' b b' v:AV} {H H1:Hp} (ha:closeV [] 0 6 a=some a') (hb:closeV [] 0 6 b=some b') (hc:f [a',b'] []=some (v,H1)) (hv:flatV 3 v=true):flatC f [a,b] H=some (v,H) :=
 flatC_of (args':=[a',b']) (by simp [ha,hb]) hc hv

theorem aload_lastf (H:Hp) (l:List AV) (off:Nat):aload false 1 (.ptr H.length off) (H++[.cells l])=l[off]?:=aload_f1 (get_last H _)
theorem abox_agg (l:List AV) (H:Hp):abox (.agg l) H=some (.ptr H.length 0,H++[.cells l]):=abox_of rfl
attribute [go_sem] abox_agg aload_lastf
def RowN (n:Nat) (H:Hp) (k:Nat) (x:AV) (l:List AV):Prop:=x=.nils∧l=[] ∨ ∃ t e,x=.vs k (.own t e) l∧H[t]?=some (.tok e)∧n≤t
def Keep (n:Nat) (H H':Hp):Prop:=∀ i,i < n→H'[i]?=H[i]?
theorem Keep.refl (n:Nat) (H:Hp):Keep n H H:=fun _ _=>rfl
theorem Keep.trans {n:Nat} {A B C:Hp} (h:Keep n A B) (k:Keep n B C):Keep n A C:=fun i hi=>(k i hi).trans (h i hi)
theorem Keep.push {n:Nat} (H:Hp) (hn:n≤H.length) (l:List AObj):Keep n H (H++l):=fun i hi=>List.getElem?_append_left (by omega)
theorem RowN.app {n : Nat} {H : Hp} {k : Nat} {x : AV} {l : List AV} (h : RowN n H k x l) (hn : n ≤ H.length) (bytes : Nat) (y : AV) (ys : List AV) (hy : elems k y H = some ys) (hf : (l.length + ys.length) * (bytes + 1) ≤ 140737488355328) :
    ∃ x' H',aappE k bytes x y H=some (x',H')∧RowN n H' k x' (l++ys)∧n≤H'.length∧Keep n H H'∧(∀ (i:Nat) (c:List AV),H[i]?=some (.cells c)→H'[i]?=some (.cells c)):=by
 unfold aappE
 simp only [hy]
 rcases h with ⟨rfl,rfl⟩ | ⟨t,e,rfl,ht,hnt⟩
 ·by_cases hys:ys=[]
  ·subst hys
   exact ⟨.nils,H,by simp [aappend],.inl ⟨rfl,rfl⟩,hn,Keep.refl _ _,fun _ _ h=>h⟩
  ·have hfit:fits ys.length bytes=true:=by simpa [fits] using hf
   exact ⟨.vs k (.own H.length ys.length) ys,H++[.tok ys.length],by simp only [aappend,hys,if_false,hfit,if_true],.inr ⟨H.length,ys.length,rfl,by simp,hn⟩,by simp;omega,Keep.push H hn _,fun i c h=>get_push h _⟩
 ·have hfit:fits (l.length+ys.length) bytes=true:=by simpa [fits] using hf
  by_cases hys:ys=[]
  ·subst hys
   exact ⟨.vs k (.own t e) l,H,by simp only [aappend,List.length_nil,Nat.add_zero] at hfit ⊢;simp only [hfit,and_self,if_true],.inr ⟨t,e,by simp,ht,hnt⟩,hn,Keep.refl _ _,fun _ _ h=>h⟩
  ·refine ⟨_,_,by simp only [aappend,hfit,and_self,if_true,hys,if_false,ht],.inr ⟨t,e+ys.length,rfl,get_set_eq _ ht,hnt⟩,by simp;omega,fun i hi=>List.getElem?_set_ne (by omega),fun i c h=>?_⟩
   refine get_set_ne _ (fun he=>?_) h
   subst he
   rw [ht] at h
   cases h
theorem all_range {n:Nat} {p:Nat→Bool} (h:(List.range n).all p=true) {i:Nat} (hi:i < n):p i=true:=List.all_eq_true.1 h i (List.mem_range.2 hi)
theorem aload_vpc (a:AV) (l:List AV) (H:Hp):aload false 1 (.vp (a :: l)) H=some a:=(Eq.refl _).trans (Eq.refl _)
abbrev Str:=List UInt8
abbrev SS (x:AV) (l:List Str):Prop:=Sl 1 x (l.map AV.str)
theorem SS.len {x:AV} {l:List Str} (h:SS x l) (e:Nat):alenD (.slice e) x=some (.int .i64 (l.length:Int)):=by
 have:=Sl.len h e
 rwa [List.length_map] at this
theorem SS.idx {x:AV} {l:List Str} (h:SS x l) {i:Nat} {s:Str} (hi:l[i]?=some s):aindexS 1 x (.int .i64 (i:Int))=some (.vp [.str s]):=Sl.idx h (c:=.str s) (by simp [hi])
theorem SS.closed {x:AV} {l:List Str} (h:SS x l) (H:Hp) (n f:Nat):∃ x',closeV H n (f+2) x=some x'∧SS x' l :=
 Sl.close h (f:=f+1) (fun y hy=>by obtain ⟨m,_,rfl⟩:=List.mem_map.1 hy;rfl)
theorem one_str (s:Str):(setElems 1 [(0,AV.str s)] [(.str [])]).map (AV.vs 1 .clip)=some (.vs 1 .clip [.str s]):=rfl
theorem splice1 {l:List AV} {i:Nat} {a:AV} (h:i < l.length):splice l (i * 1) [a]=l.set i a:=by
 unfold splice
 rw [Nat.mul_one,List.set_eq_take_append_cons_drop,if_pos h]
 simp
theorem closeV_vs' (H : Hp) (n f k : Nat) (t : Tok) (l : List AV) : closeV H n (f + 1) (.vs k t l) = match l.mapM (closeV H n f) with
    | some l=>some (.vs k (match t with | .own t e=>if t < n then .own t e else .no | tok=>tok) l)
    | none=>none:=rfl
theorem bnd_assoc {α β γ:Type} (x:Option α) (f:α→Option β) (g:β→Option γ):bnd (bnd x f) g=bnd x fun a=>bnd (f a) g:=by cases x <;> rfl
def nameD (t13_9 x8:AV):Option AV :=
 bnd (ibin .eql t13_9 (.int .u8 95)) fun t15_10 =>
 bnd (gdv t15_10 false (.tuple []) (some t13_9)) fun t17_11 =>
 bnd (gdv t15_10 false (.tuple []) (ibin .geq t17_11 (.int .u8 97))) fun t18_12 =>
 bnd (gdv t15_10 false (.tuple []) (some t18_12)) fun t19_13 =>
 bnd (gdv t19_13 true (.tuple []) (some t13_9)) fun t20_14 =>
 bnd (gdv t19_13 true (.tuple []) (ibin .leq t20_14 (.int .u8 122))) fun t21_15 =>
 bnd (gdv t15_10 false (.tuple []) (apick t19_13 t21_15 (.bool false))) fun t22_16 =>
 bnd (apick t15_10 (.bool true) t22_16) fun t23_17 =>
 bnd (gdv t23_17 false (.tuple []) (some t13_9)) fun t25_18 =>
 bnd (gdv t23_17 false (.tuple []) (ibin .geq t25_18 (.int .u8 65))) fun t26_19 =>
 bnd (gdv t23_17 false (.tuple []) (some t26_19)) fun t27_20 =>
 bnd (gdv t27_20 true (.tuple []) (some t13_9)) fun t28_21 =>
 bnd (gdv t27_20 true (.tuple []) (ibin .leq t28_21 (.int .u8 90))) fun t29_22 =>
 bnd (gdv t23_17 false (.tuple []) (apick t27_20 t29_22 (.bool false))) fun t30_23 =>
 bnd (apick t23_17 (.bool true) t30_23) fun t31_24 =>
 bnd (aun .not t31_24) fun t33_25 =>
 bnd (gdv t33_25 true (.tuple []) (some x8)) fun t35_26 =>
 bnd (gdv t33_25 true (.tuple []) (ibin .eql t35_26 (.int .i64 0))) fun t36_27 =>
 bnd (gdv t33_25 true (.tuple []) (some t36_27)) fun t37_28 =>
 bnd (gdv t37_28 false (.tuple []) (some t13_9)) fun t38_29 =>
 bnd (gdv t37_28 false (.tuple []) (ibin .lss t38_29 (.int .u8 48))) fun t39_30 =>
 bnd (gdv t33_25 true (.tuple []) (apick t37_28 (.bool true) t39_30)) fun t40_31 =>
 bnd (gdv t33_25 true (.tuple []) (some t40_31)) fun t41_32 =>
 bnd (gdv t41_32 false (.tuple []) (some t13_9)) fun t42_33 =>
 bnd (gdv t41_32 false (.tuple []) (ibin .gtr t42_33 (.int .u8 57))) fun t43_34 =>
 bnd (gdv t33_25 true (.tuple []) (apick t41_32 (.bool true) t43_34)) fun t44_35 =>
 bnd (apick t33_25 t44_35 (.bool false)) fun t45_36 =>
 some t45_36
def boolOf:Option AV→Option Bool
 | some (.bool b)=>some b
 | _=>none
theorem boolOf_some {x:Option AV} {b:Bool} (h:boolOf x=some b):x=some (.bool b):=by
 unfold boolOf at h
 split at h
 ·injection h with h;subst h;rfl
 ·cases h
def letter (n:Nat):Bool:=(decide (97≤n) && decide (n≤122)) || (decide (65≤n) && decide (n≤90))
def digit (n:Nat):Bool:=decide (48≤n) && decide (n≤57)
def inName (n:Nat):Bool:=n == 95 || letter n || digit n
theorem nameD_all:((List.range 256).all fun n=>(boolOf (nameD (.int .u8 (n:Int)) (.int .i64 1)) == some (!inName n)) && (boolOf (nameD (.int .u8 (n:Int)) (.int .i64 0)) == some (!inName n || digit n)))=true:=by kernel_rfl
theorem u8_lt (b:UInt8):b.toNat < 256:=b.toNat_lt
theorem nameD_first (b:UInt8):nameD (.int .u8 b.toNat) (.int .i64 0)=some (.bool (!inName b.toNat || digit b.toNat)):=by
 have h:=all_range nameD_all (u8_lt b)
 simp only [Bool.and_eq_true,beq_iff_eq] at h
 exact boolOf_some h.2
theorem nameD_next (b:UInt8) {i:Int} (hi:(i == 0)=false):nameD (.int .u8 b.toNat) (.int .i64 i)=some (.bool (!inName b.toNat)):=by
 have h:=all_range nameD_all (u8_lt b)
 simp only [Bool.and_eq_true,beq_iff_eq] at h
 rw [← boolOf_some h.1]
 have e:ibin .eql (.int .i64 i) (.int .i64 0)=ibin .eql (.int .i64 1) (.int .i64 0):=by simp only [ibin,ashift,intbin,hi];rfl
 unfold nameD
 iterate 16 refine congrArg (bnd _) (funext fun t=>?_)
 cases t with
 | bool b =>
  cases b
  ·rfl
  ·simp only [gdv_tt,bnd_some,e]
 | _=>rfl
theorem string_run (acc:List UInt8):stringE.run [.ptr 0 0] [AObj.bld 108 5 acc]=some (.str acc,[AObj.bld 108 5 acc]):=rfl
end Go.Am
namespace Go.Am
set_option linter.unusedSimpArgs false
set_option linter.unusedVariables false
set_option linter.unusedSectionVars false
set_option maxRecDepth 100000

def stC (m:Nat) (s:Sto):List AV:=[.int .i64 (s.limit:Int),.int .i64 (usedL s.files:Int),.int .i64 (s.peak:Int),.map m,.bool s.crashed,.int .i64 (s.count:Int)]
theorem StAt.cell {H H':Hp} {o m clk:Nat} {ds:List FD} {s s':Sto} (h:StAt H o m clk ds s) (hS:Stp [o] H H') (hc:H'[o]?=some (.cells (stC m s'))) (hf:s'.files=s.files):StAt H' o m clk ds s' where
 files:=by rw [hf];exact h.files
 cells:=hc
 map:=hS.get h.map (by simpa using h.om.symm)
 file:=fun d hd=>(h.file d hd).frame fun a ha=>hS.at' a ((h.file d hd).lt a ha) (by simpa using (h.own_lt hd ha).1)
 nd:=h.nd
 born:=h.born
theorem ld {H:Hp} {o:Nat} {l:List AV} (h:H[o]?=some (.cells l)) (i:Nat) {v:AV} (hv:l[i]?=some v):aload false 1 (.ptr o (0+i)) H=some v:=by
 rw [aload_of h,Nat.zero_add];exact hv
theorem st {H:Hp} {o:Nat} {l:List AV} (h:H[o]?=some (.cells l)) (i:Nat) {v:AV} (hv:v.cells=[v]) (hk:v.known=true) (hi:i < l.length):astoreU 1 (.ptr o (0+i)) v H=some (.tuple [],H.set o (.cells (l.set i v))):=by
 rw [Nat.zero_add,astore_of h hk (by rw [hv];rfl) (by omega),hv]
 congr 4
 have:=splice1 (l:=l) (i:=i) (a:=v) hi
 rwa [Nat.mul_one] at this
theorem begin_run {H : Hp} {o m clk : Nat} {ds : List FD} {s : Sto} (h : StAt H o m clk ds s) (hk : s.count ≤ 9223372036854775807) :
    ∃ H',C_store_Store_begin [.ptr o 0] H=some (.bool s.tick.crashed,H')∧StAt H' o m clk ds s.tick∧Stp [o] H H':=by
 have hc:H[o]?=some (.cells (stC m s)):=h.cells
 have l4:=ld hc 4 (v:=.bool s.crashed) rfl
 have l5:=ld hc 5 (v:=.int .i64 (s.count:Int)) rfl
 rw [F_store_Store_begin_eq]
 unfold F_store_Store_begin
 cases hcr:s.crashed with
 | true =>
  have ht:s.tick=s:=by unfold Sto.tick;rw [if_pos hcr]
  rw [ht,hcr]
  rw [hcr] at l4
  exact ⟨H,by simp only [go_sem,l4,store_Store_begin_J1_eq],h,Stp.refl _ _⟩
 | false =>
  rw [hcr] at l4
  by_cases h1:s.count=1
  ·have ht:s.tick={ s with crashed:=true,count:=0 }:=by unfold Sto.tick;rw [if_neg (by simp [hcr]),if_pos h1]
   have e1:((s.count:Int) == 1)=true:=by rw [h1];rfl
   have s4:=st hc 4 (v:=.bool true) rfl rfl (by simp [stC])
   have hc2:=get_set_eq (AObj.cells (List.set (stC m s) 4 (.bool true))) hc
   have s5:=st hc2 5 (v:=.int .i64 0) rfl rfl (by simp [stC])
   have hc3:=get_set_eq (AObj.cells (List.set (List.set (stC m s) 4 (.bool true)) 5 (AV.int .i64 0))) hc2
   have l4':=ld hc3 4 (v:=.bool true) rfl
   refine ⟨(H.set o (.cells ((stC m s).set 4 (.bool true)))).set o (.cells (((stC m s).set 4 (.bool true)).set 5 (.int .i64 0))),by simp only [go_sem,l4,l5,e1,s4,s5,store_Store_begin_J1_eq,l4',ht],?_,?_⟩
   ·rw [ht]
    refine h.cell ?_ ?_ rfl
    ·exact (Stp.set H _ (by simp)).trans (Stp.set _ _ (List.mem_singleton.2 rfl)) (fun a ha=>ha) (fun a ha=>.inl ha)
    ·exact hc3
   ·exact (Stp.set H _ (by simp)).trans (Stp.set _ _ (List.mem_singleton.2 rfl)) (fun a ha=>ha) (fun a ha=>.inl ha)
  ·have e1:((s.count:Int) == 1)=false:=by rw [beq_eq_false_iff_ne];omega
   have ht:s.tick={ s with count:=s.count - 1 }:=by unfold Sto.tick;rw [if_neg (by simp [hcr]),if_neg h1]
   by_cases h2:1 < s.count
   ·have e2:decide ((1:Int) < (s.count:Int))=true:=by rw [decide_eq_true_eq];omega
    have hw:IntKind.i64.wrap ((s.count:Int) - 1)=((s.count - 1:Nat):Int):=by rw [wrap64 (by omega) (by omega)];omega
    have s5:=st hc 5 (v:=.int .i64 ((s.count - 1:Nat):Int)) rfl rfl (by simp [stC])
    have hc3:=get_set_eq (AObj.cells (List.set (stC m s) 5 (AV.int .i64 ((s.count - 1:Nat):Int)))) hc
    have l4':=ld hc3 4 (v:=.bool s.crashed) rfl
    rw [hcr] at l4'
    refine ⟨H.set o (.cells ((stC m s).set 5 (.int .i64 ((s.count - 1:Nat):Int)))),by simp only [go_sem,l4,l5,e1,e2,hw,s5,store_Store_begin_J1_eq,l4',ht,hcr],?_,Stp.set _ _ (by simp)⟩
    rw [ht]
    exact h.cell (Stp.set _ _ (by simp)) hc3 rfl
   ·have e2:decide ((1:Int) < (s.count:Int))=false:=by simp;omega
    have h0:s.count=0:=by omega
    have ht2:s.tick=s:=by rw [ht];cases s;simp only at h0;subst h0;rfl
    rw [ht2,hcr]
    exact ⟨H,by simp only [go_sem,l4,l5,e1,e2,store_Store_begin_J1_eq],h,Stp.refl _ _⟩
theorem tick_files (s:Sto):s.tick.files=s.files:=by unfold Sto.tick;split;rfl;split <;> rfl
theorem tick_limit (s:Sto):s.tick.limit=s.limit:=by unfold Sto.tick;split;rfl;split <;> rfl
theorem tick_peak (s:Sto):s.tick.peak=s.peak:=by unfold Sto.tick;split;rfl;split <;> rfl
theorem open_run {H : Hp} {o m clk : Nat} {ds : List FD} {s : Sto} (h : StAt H o m clk ds s) (hk : s.count ≤ 9223372036854775807) (n : Txt) :
    ∃ (p:AV) (e:Int) (H':Hp),C_store_Store_open [.ptr o 0,.str n] H=some (.tuple [p,.int .i64 e],H')∧StAt H' o m clk ds s.tick∧Stp [o] H H' ∧
     (s.tick.crashed=true∧e=19 ∨ s.tick.crashed=false∧getF s.files n=none∧e=5 ∨
      s.tick.crashed=false∧e=0∧∃ a d b,ds=a++d :: b∧d.fil.name=n∧(∀ g ∈ a,g.fil.name ≠ n)∧getF s.files n=some d.fil∧p=.ptr d.f 0):=by
 obtain ⟨H1,q1,q2,q3⟩:=begin_run h hk
 rw [F_store_Store_open_eq]
 unfold F_store_Store_open
 cases hcr:s.tick.crashed with
 | true =>
  rw [hcr] at q1
  exact ⟨.nilp,19,H1,by simp only [go_sem,store_Store_open_J1_eq,q1],q2,q3,.inl ⟨rfl,rfl⟩⟩
 | false =>
  rw [hcr] at q1
  have l3:=ld q2.cells 3 (v:=.map m) rfl
  have hlk:=q2.look n
  rw [tick_files] at hlk
  rcases hlk with ⟨k1,k2⟩ | ⟨a,d,b,k1,k2,k3,k4,k5⟩
  ·exact ⟨.nilp,5,H1,by simp only [go_sem,store_Store_open_J1_eq,q1,store_Store_open_J2_eq,l3,k2],q2,q3,.inr (.inl ⟨rfl,k1,rfl⟩)⟩
  ·exact ⟨.ptr d.f 0,0,H1,by simp only [go_sem,store_Store_open_J1_eq,q1,store_Store_open_J2_eq,l3,k5,store_Store_open_J3_eq],q2,q3,.inr (.inr ⟨rfl,rfl,a,d,b,k1,k2,k3,k4,rfl⟩)⟩
structure StoRes (H H':Hp) (o:Nat) (s':Sto) (A A':List Nat):Prop where
 at':StoreAt H' o s' A'
 stp:Stp A H H'
 own:∀ a ∈ A',a ∈ A ∨ H.length≤a
theorem StAt.res {H H':Hp} {o m clk:Nat} {ds:List FD} {s':Sto} (h:StAt H' o m clk ds s') (hS:Stp [o] H H'):StoRes H H' o s' (o :: m :: ds.flatMap FD.own) (o :: m :: ds.flatMap FD.own) :=
 ⟨⟨m,clk,ds,h,rfl⟩,hS.mono (fun a ha=>by rw [List.mem_singleton.1 ha];simp),fun a ha=>.inl ha⟩
theorem ptr_self (d:FD):d.f ∈ d.own:=by simp [FD.own]
theorem Sync_run {H : Hp} {o : Nat} {s : Sto} {A : List Nat} (h : StoreAt H o s A) (hk : s.count ≤ 9223372036854775807) (n : Txt) :
    ∃ H' A',C_store_Store_Sync [.ptr o 0,.str n] H=some (.int .i64 (s.sync n).1,H')∧StoRes H H' o (s.sync n).2 A A':=by
 obtain ⟨m,clk,ds,h,rfl⟩:=h
 obtain ⟨p,e,H1,q1,q2,q3,q4⟩:=open_run h hk n
 rw [F_store_Store_Sync_eq]
 unfold F_store_Store_Sync Sto.sync
 rcases q4 with ⟨c1,rfl⟩ | ⟨c1,c2,rfl⟩ | ⟨c1,rfl,a,d,b,rfl,c3,c4,c5,rfl⟩
 ·have e1:((19:Int) == 0)=false:=rfl
  rw [if_pos c1]
  exact ⟨H1,_,by simp only [q1,go_sem,List.getElem?_cons_zero,List.getElem?_cons_succ,e1,store_Store_Sync_J1_eq],q2.res q3⟩
 ·have e1:((5:Int) == 0)=false:=rfl
  rw [if_neg (by simp [c1]),c2]
  exact ⟨H1,_,by simp only [q1,go_sem,List.getElem?_cons_zero,List.getElem?_cons_succ,e1,store_Store_Sync_J1_eq],q2.res q3⟩
 ·have e1:((0:Int) == 0)=true:=rfl
  rw [if_neg (by simp [c1]),c5]
  have hd:=q2.file d (by simp)
  have l0:=ld hd.cells 0 (v:=d.tx) rfl
  have hlen:=hd.text.len 5
  have s1:=st hd.cells 1 (v:=.int .i64 (d.fil.text.length:Int)) rfl rfl (by simp)
  refine ⟨H1.set d.f (.cells (List.set [d.tx,.int .i64 (d.fil.syn:Int)] 1 (.int .i64 (d.fil.text.length:Int)))),o :: m :: (a++{ d with fil:={ d.fil with syn:=d.fil.text.length } } :: b).flatMap FD.own,by simp only [q1,go_sem,List.getElem?_cons_zero,List.getElem?_cons_succ,e1,l0,hlen,s1,store_Store_Sync_J1_eq],?_⟩
  have hne:d.f ≠ o:=(q2.own_lt (d:=d) (by simp) (ptr_self d)).1
  have hnm:d.f ≠ m:=(q2.own_lt (d:=d) (by simp) (ptr_self d)).2
  have hS:Stp (o :: d.own) H1 (H1.set d.f (.cells (List.set [d.tx,.int .i64 (d.fil.syn:Int)] 1 (.int .i64 (d.fil.text.length:Int))))):=Stp.set _ _ (by simp [FD.own])
  have htx:∀ t ∈ tokA d.tx,t ≠ d.f:=fun t ht=>by
   have:=q2.nd
   rw [List.nodup_cons,List.nodup_cons,List.flatMap_append,List.flatMap_cons,List.nodup_append,List.nodup_append] at this
   obtain ⟨_,_,_,⟨k1,_⟩,_⟩:=this
   rw [FD.own,List.nodup_cons] at k1
   exact fun e=>k1.1 (e ▸ ht)
  have hup:usedL (updF s.files n fun f=>{ f with syn:=f.text.length })=usedL s.files:=by
   rw [← h.files,updF_map a d b n _ c3 c4]
   simp [usedL_app,usedL]
  have hat:=q2.upd (d':={ d with fil:={ d.fil with syn:=d.fil.text.length } }) (s':={ s.tick with files:=updF s.files n fun f=>{ f with syn:=f.text.length } }) (H':=H1.set d.f (.cells (List.set [d.tx,.int .i64 (d.fil.syn:Int)] 1 (.int .i64 (d.fil.text.length:Int)))))
   (by
    rw [List.getElem?_set_ne hne,q2.cells]
    simp only [hup,tick_files])
   (List.getElem?_set_ne hnm) rfl (by show updF s.files n _=_;rw [← h.files,updF_map a d b n _ c3 c4])
   ⟨get_set_eq _ hd.cells,hd.text.frame fun t ht=>List.getElem?_set_ne (fun e=>htx t ht e.symm)⟩ hS
   (by
    have:=q2.nd
    rw [List.nodup_cons,List.nodup_cons,List.flatMap_append,List.flatMap_cons,List.nodup_append,List.nodup_append] at this
    exact this.2.2.2.1.1)
   (fun x hx=>.inl hx)
  refine ⟨⟨m,clk,_,hat,rfl⟩,?_,fun x hx=>.inl ?_⟩
  ·refine q3.trans hS (fun x hx=>by rw [List.mem_singleton.1 hx];simp) fun x hx=>.inl ?_
   rcases List.mem_cons.1 hx with e | hx
   ·subst e;simp
   ·simp [hx]
  ·simpa [FD.own] using hx
end Go.Am
namespace Go.Am
set_option linter.unusedSimpArgs false
set_option linter.unusedVariables false
set_option linter.unusedSectionVars false
set_option maxRecDepth 100000

theorem StAt.fileRes {H H1 H' : Hp} {o m clk : Nat} {a b : List FD} {d d' : FD} {s s' : Sto} (h : StAt H o m clk (a ++ d :: b) s) (h1 : Stp [o] H H1) (hat : StAt H' o m clk (a ++ d' :: b) s') (hS : Stp (o :: d.own) H1 H')
    (hown:∀ x ∈ d'.own,x ∈ d.own ∨ H1.length≤x):StoRes H H' o s' (o :: m :: (a++d :: b).flatMap FD.own) (o :: m :: (a++d' :: b).flatMap FD.own):=by
 refine ⟨⟨m,clk,_,hat,rfl⟩,h1.trans hS (fun x hx=>by rw [List.mem_singleton.1 hx];simp) fun x hx=>.inl ?_,fun x hx=>?_⟩
 ·rcases List.mem_cons.1 hx with e | hx
  ·subst e;simp
  ·simp [hx]
 ·rcases List.mem_cons.1 hx with e | hx
  ·subst e;exact .inl (by simp)
  rcases List.mem_cons.1 hx with e | hx
  ·subst e;exact .inl (by simp)
  rw [List.flatMap_append,List.flatMap_cons] at hx
  rcases List.mem_append.1 hx with hx | hx
  ·exact .inl (by simp only [List.flatMap_append,List.mem_cons,List.mem_append];exact .inr (.inr (.inl hx)))
  rcases List.mem_append.1 hx with hx | hx
  ·rcases hown x hx with k | k
   ·exact .inl (by simp only [List.flatMap_append,List.flatMap_cons,List.mem_cons,List.mem_append];exact .inr (.inr (.inr (.inl k))))
   ·exact .inr (Nat.le_trans h1.len k)
  ·exact .inl (by simp only [List.flatMap_append,List.flatMap_cons,List.mem_cons,List.mem_append];exact .inr (.inr (.inr (.inr hx))))
theorem StAt.mid {H:Hp} {o m clk:Nat} {a b:List FD} {d:FD} {s:Sto} (h:StAt H o m clk (a++d :: b) s):d.own.Nodup∧FileAt H d∧(∀ x ∈ d.own,x ≠ o∧x ≠ m)∧∀ t ∈ tokA d.tx,t ≠ d.f:=by
 have:=h.nd
 rw [List.nodup_cons,List.nodup_cons,List.flatMap_append,List.flatMap_cons,List.nodup_append,List.nodup_append] at this
 obtain ⟨_,_,_,⟨k1,_⟩,_⟩:=this
 refine ⟨k1,h.file d (by simp),fun x hx=>h.own_lt (d:=d) (by simp) hx,fun t ht=>?_⟩
 rw [FD.own,List.nodup_cons] at k1
 exact fun e=>k1.1 (e ▸ ht)
theorem usedL_mid (a:List Fil) (f:Fil) (b:List Fil):usedL (a++f :: b)=usedL a+(f.text.length+usedL b):=by rw [usedL_app];rfl
theorem Append_run {H : Hp} {o : Nat} {s : Sto} {A : List Nat} (h : StoreAt H o s A) (hk : StoOk s) (n t : Txt) (ht : t.length ≤ 1048576) :
    ∃ H' A',C_store_Store_Append [.ptr o 0,.str n,.str t] H=some (.int .i64 (s.append n t).1,H')∧StoRes H H' o (s.append n t).2 A A':=by
 obtain ⟨m,clk,ds,h,rfl⟩:=h
 obtain ⟨p,e,H1,q1,q2,q3,q4⟩:=open_run h hk.count n
 rw [F_store_Store_Append_eq]
 unfold F_store_Store_Append Sto.append
 rcases q4 with ⟨c1,rfl⟩ | ⟨c1,c2,rfl⟩ | ⟨c1,rfl,a,d,b,rfl,c3,c4,c5,rfl⟩
 ·have e1:((19:Int) != 0)=true:=rfl
  rw [if_pos c1]
  exact ⟨H1,_,by simp only [q1,go_sem,List.getElem?_cons_zero,List.getElem?_cons_succ,e1],q2.res q3⟩
 ·have e1:((5:Int) != 0)=true:=rfl
  rw [if_neg (by simp [c1]),c2]
  exact ⟨H1,_,by simp only [q1,go_sem,List.getElem?_cons_zero,List.getElem?_cons_succ,e1],q2.res q3⟩
 ·have e1:((0:Int) != 0)=false:=rfl
  rw [if_neg (by simp [c1]),c5]
  have hused:=hk.used
  have hlim:=hk.limit
  have hpk:=hk.peak
  have hc:H1[o]?=some (.cells (stC m s.tick)):=q2.cells
  have l0:=ld hc 0 (v:=.int .i64 (s.limit:Int)) (by rw [← tick_limit s];rfl)
  have l1:=ld hc 1 (v:=.int .i64 (usedL s.files:Int)) (by rw [← tick_files s];rfl)
  have hw:IntKind.i64.wrap ((usedL s.files:Int)+(t.length:Int))=((usedL s.files+t.length:Nat):Int):=by rw [wrap64 (by omega) (by omega)];omega
  by_cases hf:s.limit < usedL s.files+t.length
  ·have e2:decide ((s.limit:Int) < ((usedL s.files+t.length:Nat):Int))=true:=by rw [decide_eq_true_eq];omega
   simp only [if_pos hf]
   exact ⟨H1,_,by simp only [q1,go_sem,List.getElem?_cons_zero,List.getElem?_cons_succ,e1,store_Store_Append_J1_eq,l0,l1,hw,e2],q2.res q3⟩
  ·have e2:decide ((s.limit:Int) < ((usedL s.files+t.length:Nat):Int))=false:=by simp;omega
   simp only [if_neg hf]
   obtain ⟨k1,hd,k3,k4⟩:=q2.mid
   have hfl:=h.files
   have hfile:usedL s.files=usedL (a.map FD.fil)+(d.fil.text.length+usedL (b.map FD.fil)):=by
    rw [← hfl,List.map_append,List.map_cons,usedL_mid]
   have m0:=ld hd.cells 0 (v:=d.tx) rfl
   obtain ⟨x',H2,p1,p2,p3,p4,p5⟩:=hd.text.app t (by omega)
   have g1:H2[d.f]?=some (.cells [d.tx,.int .i64 (d.fil.syn:Int)]):=p3.get hd.cells fun hx=>k4 _ hx rfl
   have hx':x'.cells=[x']∧x'.known=true:=by
    rcases p2 with ⟨rfl,_⟩ | ⟨t',e',rfl,_⟩ | rfl <;> exact ⟨rfl,rfl⟩
   have s1:=st g1 0 (v:=x') hx'.1 hx'.2 (by simp)
   have hko:=k3 d.f (by simp [FD.own])
   have hoT:o ∉ tokA d.tx:=fun hx=>(k3 o (by simp [FD.own,hx])).1 rfl
   have hmT:m ∉ tokA d.tx:=fun hx=>(k3 m (by simp [FD.own,hx])).2 rfl
   have g2:H2[o]?=some (.cells (stC m s.tick)):=p3.get hc hoT
   have g3:=get_set_ne (.cells (List.set [d.tx,.int .i64 (d.fil.syn:Int)] 0 x')) hko.1 g2
   have n1:=ld g3 1 (v:=.int .i64 (usedL s.files:Int)) (by rw [← tick_files s];rfl)
   have s2:=st g3 1 (v:=.int .i64 ((usedL s.files+t.length:Nat):Int)) rfl rfl (by simp [stC])
   have g4:=get_set_eq (AObj.cells (List.set (stC m s.tick) 1 (.int .i64 ((usedL s.files+t.length:Nat):Int)))) g3
   have n2:=ld g4 2 (v:=.int .i64 (s.peak:Int)) (by rw [← tick_peak s];rfl)
   have n3:=ld g4 1 (v:=.int .i64 ((usedL s.files+t.length:Nat):Int)) rfl
   have hmx:max (s.peak:Int) ((usedL s.files+t.length:Nat):Int)=((max s.peak (usedL s.files+t.length):Nat):Int):=by omega
   have s3:=st g4 2 (v:=.int .i64 ((max s.peak (usedL s.files+t.length):Nat):Int)) rfl rfl (by simp [stC])
   have g5:=get_set_eq (AObj.cells (List.set (List.set (stC m s.tick) 1 (.int .i64 ((usedL s.files+t.length:Nat):Int))) 2 (.int .i64 ((max s.peak (usedL s.files+t.length):Nat):Int)))) g4
   generalize hH3:H2.set d.f (.cells (List.set [d.tx,.int .i64 (d.fil.syn:Int)] 0 x'))=H3 at s1 g3 n1 s2 g4 n2 n3 s3 g5
   generalize hH4:H3.set o (.cells (List.set (stC m s.tick) 1 (.int .i64 ((usedL s.files+t.length:Nat):Int))))=H4 at s2 g4 n2 n3 s3 g5
   generalize hH5:H4.set o (.cells (List.set (List.set (stC m s.tick) 1 (.int .i64 ((usedL s.files+t.length:Nat):Int))) 2 (.int .i64 ((max s.peak (usedL s.files+t.length):Nat):Int))))=H5 at s3 g5
   have hS:Stp (o :: d.own) H1 H5:=by
    refine (p3.mono (B:=o :: d.own) fun x hx=>by simp [FD.own,hx]).trans (B:=o :: d.own) (C:=o :: d.own) ?_ (fun _ h=>h) fun _ h=>.inl h
    rw [← hH5,← hH4,← hH3]
    exact ((Stp.set _ _ (by simp [FD.own])).trans (Stp.set _ _ (by simp)) (fun _ h=>h) fun _ h=>.inl h).trans (Stp.set _ _ (by simp)) (fun _ h=>h) fun _ h=>.inl h
   have hfin:∀ y,y ≠ o→y ≠ d.f→H5[y]?=H2[y]?:=fun y h1 h2=>by
    rw [← hH5,List.getElem?_set_ne (fun e=>h1 e.symm),← hH4,List.getElem?_set_ne (fun e=>h1 e.symm),← hH3,List.getElem?_set_ne (fun e=>h2 e.symm)]
   have hown:∀ y ∈ FD.own { d with fil:={ d.fil with text:=d.fil.text++t },tx:=x' },y ∈ d.own ∨ H1.length≤y:=fun y hy=>by
    rcases List.mem_cons.1 hy with e | hy
    ·subst e;exact .inl (by simp [FD.own])
    ·rcases p4 y hy with k | k
     ·exact .inl (by simp [FD.own,k])
     ·exact .inr (by omega)
   have hlt1:∀ y ∈ d.own,y < H1.length:=hd.lt
   have hT:∀ y ∈ tokA x',y ≠ o∧y ≠ d.f:=fun y hy=>by
    rcases p4 y hy with k | k
    ·exact ⟨(k3 y (by simp [FD.own,k])).1,k4 y k⟩
    ·have:=lt_of_get hc
     have:=hlt1 d.f (by simp [FD.own])
     omega
   have hup:usedL (updF s.files n fun f=>{ f with text:=f.text++t })=usedL s.files+t.length:=by
    rw [hfile,← h.files,updF_map a d b n _ c3 c4,usedL_mid,List.length_append]
    omega
   have hat:=q2.upd (H':=H5) (d':={ d with fil:={ d.fil with text:=d.fil.text++t },tx:=x' }) (s':={ s.tick with files:=updF s.files n fun f=>{ f with text:=f.text++t },peak:=max s.peak (usedL s.files+t.length) })
    (by rw [g5];simp only [hup];rfl)
    (by rw [hfin m (fun e=>h.om e.symm) (fun e=>hko.2 e.symm)];exact p3.at' m (lt_of_get q2.map) hmT)
    rfl (by show updF s.files n _=_;rw [← h.files,updF_map a d b n _ c3 c4])
    ⟨by
     rw [← hH5,List.getElem?_set_ne (fun e=>hko.1 e.symm),← hH4,List.getElem?_set_ne (fun e=>hko.1 e.symm),← hH3]
     exact get_set_eq _ g1,p2.frame fun y hy=>hfin y (hT y hy).1 (hT y hy).2⟩ hS
    (by
     rw [FD.own,List.nodup_cons]
     refine ⟨fun hy=>(hT _ hy).2 rfl,?_⟩
     show (tokA x').Nodup
     rcases p2 with ⟨rfl,_⟩ | ⟨t',e',rfl,_⟩ | rfl <;> simp [tokA])
    hown
   refine ⟨H5,_,?_,h.fileRes q3 hat hS hown⟩
   simp only [q1,go_sem,List.getElem?_cons_zero,List.getElem?_cons_succ,e1,store_Store_Append_J1_eq,l0,l1,hw,e2,store_Store_Append_J2_eq,m0,p1,s1,n1,s2,n2,n3,hmx,s3]
end Go.Am
namespace Go.Am
set_option linter.unusedSimpArgs false
set_option linter.unusedVariables false
set_option linter.unusedSectionVars false
set_option maxRecDepth 100000

theorem Read_run {H : Hp} {o : Nat} {s : Sto} {A : List Nat} (h : StoreAt H o s A) (hk : StoOk s) (n : Txt) (i k : Int) (hi : -9223372036854775808 ≤ i ∧ i ≤ 9223372036854775807) :
    ∃ H',C_store_Store_Read [.ptr o 0,.str n,.int .i64 i,.int .i64 k] H=some (.tuple [.str (s.read n i k).1,.int .i64 (s.read n i k).2],H')∧StoRes H H' o s.tick A A:=by
 obtain ⟨m,clk,ds,h,rfl⟩:=h
 obtain ⟨p,e,H1,q1,q2,q3,q4⟩:=open_run h hk.count n
 rw [F_store_Store_Read_eq]
 unfold F_store_Store_Read Sto.read
 rcases q4 with ⟨c1,rfl⟩ | ⟨c1,c2,rfl⟩ | ⟨c1,rfl,a,d,b,rfl,c3,c4,c5,rfl⟩
 ·have e1:((19:Int) != 0)=true:=rfl
  rw [if_pos c1]
  exact ⟨H1,by simp only [q1,go_sem,List.getElem?_cons_zero,List.getElem?_cons_succ,e1],q2.res q3⟩
 ·have e1:((5:Int) != 0)=true:=rfl
  rw [if_neg (by simp [c1]),c2]
  exact ⟨H1,by simp only [q1,go_sem,List.getElem?_cons_zero,List.getElem?_cons_succ,e1],q2.res q3⟩
 ·have e1:((0:Int) != 0)=false:=rfl
  rw [if_neg (by simp [c1]),c5]
  obtain ⟨k1,hd,k3,k4⟩:=q2.mid
  have m0:=ld hd.cells 0 (v:=d.tx) rfl
  have hlen:=hd.text.len 5
  have hfile:usedL s.files=usedL (a.map FD.fil)+(d.fil.text.length+usedL (b.map FD.fil)):=by
   rw [← h.files,List.map_append,List.map_cons,usedL_mid]
  have hused:=hk.used
  have hlim:=hk.limit
  refine ⟨H1,?_,q2.res q3⟩
  simp only [q1,go_sem,List.getElem?_cons_zero,List.getElem?_cons_succ,e1,store_Store_Read_J1_eq]
  by_cases hi0:i < 0
  ·simp only [decide_eq_true hi0,go_sem,if_pos (show i < 0 ∨ (d.fil.text.length:Int) < i ∨ k < 0 from .inl hi0)]
  by_cases hi1:(d.fil.text.length:Int) < i
  ·simp only [decide_eq_false hi0,go_sem,m0,hlen,decide_eq_true hi1,if_pos (show i < 0 ∨ (d.fil.text.length:Int) < i ∨ k < 0 from .inr (.inl hi1))]
  by_cases hk0:k < 0
  ·simp only [decide_eq_false hi0,go_sem,m0,hlen,decide_eq_false hi1,decide_eq_true hk0,if_pos (show i < 0 ∨ (d.fil.text.length:Int) < i ∨ k < 0 from .inr (.inr hk0))]
  have hno:¬ (i < 0 ∨ (d.fil.text.length:Int) < i ∨ k < 0):=by omega
  have hw1:IntKind.i64.wrap ((d.fil.text.length:Int) - i)=(d.fil.text.length:Int) - i:=wrap64 (by omega) (by omega)
  have hw2:IntKind.i64.wrap (i+min k ((d.fil.text.length:Int) - i))=((i.toNat+min k.toNat (d.fil.text.length - i.toNat):Nat):Int):=by rw [wrap64 (by omega) (by omega)];omega
  obtain ⟨y,p1,p2⟩:=hd.text.part (i:=i.toNat) (j:=i.toNat+min k.toNat (d.fil.text.length - i.toNat)) (by omega) (by omega) H1
  have hii:((i.toNat:Nat):Int)=i:=by omega
  rw [hii] at p1
  have htx:(d.fil.text.take (i.toNat+min k.toNat (d.fil.text.length - i.toNat))).drop i.toNat=(d.fil.text.drop i.toNat).take k.toNat:=by
   rw [List.drop_take,Nat.add_sub_cancel_left]
   by_cases hlt:k.toNat≤d.fil.text.length - i.toNat
   ·rw [Nat.min_eq_left hlt]
   ·rw [Nat.min_eq_right (by omega),List.take_of_length_le (by simp),List.take_of_length_le (by simp;omega)]
  rw [htx] at p2
  simp only [decide_eq_false hi0,go_sem,m0,hlen,decide_eq_false hi1,decide_eq_false hk0,store_Store_Read_J2_eq,hw1,hw2,p1,p2,if_neg hno]

def fnameD (t13_9 x8 : AV) : Option AV :=
    bnd (ibin .geq t13_9 (.int .u8 97)) fun t15_10 =>
    bnd (gdv t15_10 true (.tuple []) (some t13_9)) fun t17_11 =>
    bnd (gdv t15_10 true (.tuple []) (ibin .leq t17_11 (.int .u8 122))) fun t18_12 =>
    bnd (apick t15_10 t18_12 (.bool false)) fun t19_13 =>
    bnd (gdv t19_13 false (.tuple []) (some t13_9)) fun t21_14 =>
    bnd (gdv t19_13 false (.tuple []) (ibin .geq t21_14 (.int .u8 65))) fun t22_15 =>
    bnd (gdv t19_13 false (.tuple []) (some t22_15)) fun t23_16 =>
    bnd (gdv t23_16 true (.tuple []) (some t13_9)) fun t24_17 =>
    bnd (gdv t23_16 true (.tuple []) (ibin .leq t24_17 (.int .u8 90))) fun t25_18 =>
    bnd (gdv t19_13 false (.tuple []) (apick t23_16 t25_18 (.bool false))) fun t26_19 =>
    bnd (apick t19_13 (.bool true) t26_19) fun t27_20 =>
    bnd (gdv t27_20 false (.tuple []) (some t13_9)) fun t29_21 =>
    bnd (gdv t27_20 false (.tuple []) (ibin .eql t29_21 (.int .u8 95))) fun t30_22 =>
    bnd (apick t27_20 (.bool true) t30_22) fun t31_23 =>
    bnd (gdv t31_23 false (.tuple []) (some t13_9)) fun t33_24 =>
    bnd (gdv t31_23 false (.tuple []) (ibin .eql t33_24 (.int .u8 46))) fun t34_25 =>
    bnd (apick t31_23 (.bool true) t34_25) fun t35_26 =>
    bnd (aun .not t35_26) fun t37_27 =>
    bnd (gdv t37_27 true (.tuple []) (some x8)) fun t39_28 =>
    bnd (gdv t37_27 true (.tuple []) (ibin .eql t39_28 (.int .i64 0))) fun t40_29 =>
    bnd (gdv t37_27 true (.tuple []) (some t40_29)) fun t41_30 =>
    bnd (gdv t41_30 false (.tuple []) (some t13_9)) fun t42_31 =>
    bnd (gdv t41_30 false (.tuple []) (ibin .lss t42_31 (.int .u8 48))) fun t43_32 =>
    bnd (gdv t37_27 true (.tuple []) (apick t41_30 (.bool true) t43_32)) fun t44_33 =>
    bnd (gdv t37_27 true (.tuple []) (some t44_33)) fun t45_34 =>
    bnd (gdv t45_34 false (.tuple []) (some t13_9)) fun t46_35 =>
    bnd (gdv t45_34 false (.tuple []) (ibin .gtr t46_35 (.int .u8 57))) fun t47_36 =>
    bnd (gdv t37_27 true (.tuple []) (apick t45_34 (.bool true) t47_36)) fun t48_37 =>
    bnd (apick t37_27 t48_37 (.bool false)) fun t49_38 =>
    some t49_38
theorem fname_J2_eq (x0 x7 x8 x9 : AV) (H0 H : Hp) : store_fileName_J2 x0 x7 x8 x9 H0 H =
    bnd (aindexStr x0 x8) fun t13_9 =>
    bnd (fnameD t13_9 x8) fun t49_38 =>
    cnd t49_38 (some ((.bool false),H)) (store_fileName_J3 x0 x7 x8 H0 H):=by
 rw [store_fileName_J2_eq];simp only [fnameD,bnd_assoc,bnd_some]
theorem fnameD_all:((List.range 256).all fun n=>(boolOf (fnameD (.int .u8 (n:Int)) (.int .i64 1)) == some (!(letB (UInt8.ofNat n) || digB (UInt8.ofNat n)))) && (boolOf (fnameD (.int .u8 (n:Int)) (.int .i64 0)) == some (!letB (UInt8.ofNat n))))=true:=by kernel_rfl
theorem fnameD_first (b:UInt8):fnameD (.int .u8 b.toNat) (.int .i64 0)=some (.bool (!letB b)):=by
 have h:=all_range fnameD_all (u8_lt b)
 simp only [Bool.and_eq_true,beq_iff_eq,UInt8.ofNat_toNat] at h
 exact boolOf_some h.2
theorem fnameD_next (b:UInt8) {i:Int} (hi:(i == 0)=false):fnameD (.int .u8 b.toNat) (.int .i64 i)=some (.bool (!(letB b || digB b))):=by
 have h:=all_range fnameD_all (u8_lt b)
 simp only [Bool.and_eq_true,beq_iff_eq,UInt8.ofNat_toNat] at h
 rw [← boolOf_some h.1]
 have e:ibin .eql (.int .i64 i) (.int .i64 0)=ibin .eql (.int .i64 1) (.int .i64 0):=by simp only [ibin,ashift,intbin,hi];rfl
 unfold fnameD
 iterate 18 refine congrArg (bnd _) (funext fun t=>?_)
 cases t with
 | bool b =>
  cases b
  ·rfl
  ·simp only [gdv_tt,bnd_some,e]
 | _=>rfl
theorem fname_J1 (s:Txt) (H0 H:Hp):store_fileName_J1 (.str s) H0 H=some (.bool (!s.isEmpty && decide (s.length≤32)),H):=by
 rw [store_fileName_J1_eq]
 cases s with
 | nil=>simp [go_sem,sbin,strbin]
 | cons b l =>
  simp only [sbin,strbin,go_sem,alenD]
  have:(!((b :: l) == ([]:Txt)))=true:=rfl
  have c:decide (((b :: l).length:Int)≤32)=decide ((b :: l).length≤32):=by rw [Bool.eq_iff_iff];simp;omega
  simp only [this,go_sem,c,List.isEmpty_cons,Bool.not_false,Bool.true_and]
theorem fname_loop (s : Txt) (hs : s.length ≤ 1048576) (H0 H : Hp) : ∀ (k i : Nat), s.length - i = k → 0 < i → i ≤ s.length →
    store_fileName_L1 (.str s) (.int .i64 s.length) (.int .i64 i) H0 H=some (.bool (((s.drop i).all fun c=>letB c || digB c) && (!s.isEmpty && decide (s.length≤32))),H):=by
 intro k
 induction k with
 | zero =>
  intro i hk h0 hi
  rw [store_fileName_L1_eq]
  have hlt:decide ((i:Int) < (s.length:Int))=false:=by simp;omega
  have hd:s.drop i=[]:=List.drop_eq_nil_iff.2 (by omega)
  simp only [go_sem,hlt,fname_J1 s,hd,List.all_nil,Bool.true_and]
 | succ k ih =>
  intro i hk h0 hi
  rw [store_fileName_L1_eq]
  have hl:i < s.length:=by omega
  have hlt:decide ((i:Int) < (s.length:Int))=true:=by simp;omega
  have hw:IntKind.i64.wrap ((i:Int)+1)=((i+1:Nat):Int):=by rw [wrap64 (by omega) (by omega)];omega
  have h0':((i:Int) == 0)=false:=by simp;omega
  simp only [go_sem,hlt,fname_J2_eq,aindexStr_of (List.getElem?_eq_getElem hl),fnameD_next _ h0']
  rw [List.drop_eq_getElem_cons hl,List.all_cons]
  cases hb:(letB s[i] || digB s[i]) with
  | false=>simp only [go_sem,Bool.not_false,Bool.false_and]
  | true =>
   simp only [go_sem,Bool.not_true,Bool.true_and,store_fileName_J3_eq,hw]
   exact ih (i+1) (by omega) (by omega) (by omega)
theorem fname_flat (s:Txt) (hs:s.length≤1048576) (H:Hp):flatC C_store_fileName [.str s] H=some (.bool (nameB s),H):=by
 refine flat1 (a':=.str s) rfl (H1:=[]) ?_ rfl
 rw [F_store_fileName_eq]
 unfold F_store_fileName
 simp only [go_sem,alenD]
 cases s with
 | nil=>rw [store_fileName_L1_eq];simp [go_sem,fname_J1 [],nameB]
 | cons b l =>
  rw [store_fileName_L1_eq]
  have hlt:decide ((0:Int) < ((b :: l).length:Int))=true:=by simp
  have hw:IntKind.i64.wrap ((0:Int)+1)=((0+1:Nat):Int):=by decide
  have hidx:aindexStr (.str (b :: l)) (.int .i64 0)=some (.int .u8 b.toNat):=by simp [aindexStr]
  simp only [go_sem,hlt,fname_J2_eq,hidx,fnameD_first]
  unfold nameB
  cases hb:letB b with
  | false=>simp only [go_sem,Bool.not_false,hb,Bool.false_and]
  | true =>
   have:=fname_loop (b :: l) hs [] [] l.length 1 (by simp) (by omega) (by simp)
   rw [show ((1:Nat):Int)=((0+1:Nat):Int) from rfl] at this
   simp only [go_sem,Bool.not_true,store_fileName_J3_eq,hw,this]
   simp only [List.drop_one,List.tail_cons,List.isEmpty_cons,Bool.not_false,Bool.true_and,hb]
theorem len_map {H:Hp} {m clk:Nat} {es:List (AV × AV × Nat)} (h:H[m]?=some (.map es clk)):alenM (.map m) H=some (.int .i64 (es.length:Int)):=by
 unfold alenM entries
 dsimp only
 rw [h]
theorem Create_run {H : Hp} {o : Nat} {s : Sto} {A : List Nat} (h : StoreAt H o s A) (hk : StoOk s) (n : Txt) (hn : n.length ≤ 1048576) :
    ∃ H' A',C_store_Store_Create [.ptr o 0,.str n] H=some (.int .i64 (s.create n).1,H')∧StoRes H H' o (s.create n).2 A A':=by
 obtain ⟨m,clk,ds,h,rfl⟩:=h
 obtain ⟨H1,q1,q2,q3⟩:=begin_run h hk.count
 have hfn:=fname_flat n hn H1
 have hc:H1[o]?=some (.cells (stC m s.tick)):=q2.cells
 have l3:=ld hc 3 (v:=.map m) rfl
 have hlk:=q2.look n
 rw [tick_files] at hlk
 have hlm:=len_map q2.map
 have hdl:(ds.map FD.ent).length=s.files.length:=by rw [List.length_map,← h.files,List.length_map]
 rw [hdl] at hlm
 rw [F_store_Store_Create_eq]
 unfold F_store_Store_Create Sto.create
 cases hcr:s.tick.crashed with
 | true =>
  rw [hcr] at q1
  rw [if_pos rfl]
  exact ⟨H1,_,by simp only [go_sem,q1],q2.res q3⟩
 | false =>
  rw [hcr] at q1
  rw [if_neg (by simp)]
  cases hnb:nameB n with
  | false =>
   rw [hnb] at hfn
   rw [if_pos rfl]
   exact ⟨H1,_,by simp only [go_sem,q1,hfn,Bool.not_false],q2.res q3⟩
  | true =>
   rw [hnb] at hfn
   rw [if_neg (by simp)]
   rcases hlk with ⟨k1,k2⟩ | ⟨a,d,b,k1,k2,k3,k4,k5⟩
   ·rw [k1]
    by_cases h64:64≤s.files.length
    ·have e1:decide ((64:Int)≤(s.files.length:Int))=true:=by rw [decide_eq_true_eq];omega
     simp only [if_pos h64]
     exact ⟨H1,_,by simp only [go_sem,q1,hfn,Bool.not_true,l3,k2,hlm,e1],q2.res q3⟩
    ·have e1:decide ((64:Int)≤(s.files.length:Int))=false:=by simp;omega
     have e2:ebin (.map 9 85) .eql (.map m) .nilm=some (.bool false):=rfl
     have hbx:abox (.agg [.nils,.int .i64 0]) H1=some (.ptr H1.length 0,H1++[.cells [.nils,.int .i64 0]]):=rfl
     have hm2:(H1++[AObj.cells [.nils,.int .i64 0]])[m]?=some (.map (ds.map FD.ent) clk):=get_push q2.map _
     have hset:amapSet .string (.map m) (.str n) (.ptr H1.length 0) (H1++[AObj.cells [.nils,.int .i64 0]])=some (.tuple [],(H1++[AObj.cells [.nils,.int .i64 0]]).set m (.map (ds.map FD.ent++[(.str n,.ptr H1.length 0,clk)]) (clk+1))):=by
      have hkk:keyOk .string (.str n)=true:=rfl
      unfold amapSet
      dsimp only
      rw [hm2]
      dsimp only
      rw [if_pos hkk,findK_none ds n 0 (by rw [h.files];exact k1)]
     simp only [if_neg h64]
     have hmlt:=lt_of_get q2.map
     have holt:=lt_of_get hc
     have hS:Stp [o,m] H1 ((H1++[AObj.cells [.nils,.int .i64 0]]).set m (.map (ds.map FD.ent++[(.str n,.ptr H1.length 0,clk)]) (clk+1))) :=
      (Stp.push (A:=[o,m]) H1 _).trans (Stp.set _ _ (by simp)) (fun _ h=>h) fun _ h=>.inl h
     have hfile:∀ d ∈ ds,FileAt ((H1++[AObj.cells [.nils,.int .i64 0]]).set m (.map (ds.map FD.ent++[(.str n,.ptr H1.length 0,clk)]) (clk+1))) d:=fun d hd=>(q2.file d hd).frame fun y hy=>by
      have:=q2.own_lt hd hy
      exact hS.at' y ((q2.file d hd).lt y hy) (by simp [this.1,this.2])
     have hlt:=q2.lt
     have hrun:=ld (get_push hc [AObj.cells [.nils,.int .i64 0]]) 3 (show (stC m s.tick)[3]?=some (.map m) from rfl)
     refine ⟨(H1++[AObj.cells [.nils,.int .i64 0]]).set m (.map (ds.map FD.ent++[(.str n,.ptr H1.length 0,clk)]) (clk+1)),o :: m :: (ds++[FD.mk ⟨n,[],0⟩ H1.length .nils clk]).flatMap FD.own,?_,⟨⟨m,clk+1,ds++[⟨⟨n,[],0⟩,H1.length,.nils,clk⟩],⟨?_,?_,?_,?_,?_,?_⟩,rfl⟩,?_,?_⟩⟩
     ·simp only [go_sem,q1,hfn,Bool.not_true,l3,k2,hlm,e1,store_Store_Create_J1_eq,e2,store_Store_Create_J2_eq,hbx,hset]
     ·show _=s.files++[_]
      rw [List.map_append,h.files];rfl
     ·rw [get_set_ne _ h.om.symm (get_push hc _)]
      simp only [stC,usedL_app,usedL,tick_files]
      rfl
     ·rw [get_set_eq _ hm2];simp [FD.ent]
     ·intro d hd
      rcases List.mem_append.1 hd with hd | hd
      ·exact hfile d hd
      ·rw [List.mem_singleton.1 hd]
       exact ⟨get_set_ne _ (by show m ≠ H1.length;omega) (by simp),.inl ⟨rfl,rfl⟩⟩
     ·rw [List.flatMap_append]
      have h0:=h.nd
      have hx:(o :: m :: ds.flatMap FD.own)++[H1.length]=o :: m :: (ds.flatMap FD.own++[FD.mk ⟨n,[],0⟩ H1.length .nils clk].flatMap FD.own):=by simp [FD.own,tokA]
      rw [← hx,List.nodup_append]
      refine ⟨h0,by simp,fun x hx y hy=>?_⟩
      rw [List.mem_singleton.1 hy]
      have:=hlt x hx
      omega
     ·obtain ⟨b1,b2⟩:=h.born
      refine ⟨?_,fun d hd=>?_⟩
      ·rw [List.map_append,List.nodup_append]
       refine ⟨b1,by simp,fun x hx y hy=>?_⟩
       obtain ⟨d,hd,rfl⟩:=List.mem_map.1 hx
       have:=b2 d hd
       simp at hy
       omega
      ·rcases List.mem_append.1 hd with hd | hd
       ·have:=b2 d hd;omega
       ·rw [List.mem_singleton.1 hd];simp
     ·refine (q3.trans hS (C:=o :: m :: ds.flatMap FD.own) (fun x hx=>by rw [List.mem_singleton.1 hx];simp) fun x hx=>.inl ?_)
      simp at hx
      rcases hx with e | e <;> subst e <;> simp
     ·intro x hx
      rcases List.mem_cons.1 hx with e | hx
      ·subst e;exact .inl (by simp)
      rcases List.mem_cons.1 hx with e | hx
      ·subst e;exact .inl (by simp)
      rw [List.flatMap_append] at hx
      rcases List.mem_append.1 hx with hx | hx
      ·exact .inl (by simp [hx])
      ·have hx2:x=H1.length:=by simpa [FD.own,tokA] using hx
       rw [hx2]
       exact .inr q3.len
   ·rw [k4]
    exact ⟨H1,_,by simp only [go_sem,q1,hfn,Bool.not_true,l3,k5],q2.res q3⟩
end Go.Am
namespace Go.Am
set_option linter.unusedSimpArgs false
set_option linter.unusedVariables false
set_option linter.unusedSectionVars false
set_option maxRecDepth 100000

theorem eraseIdx_mid {α:Type} (a:List α) (d:α) (b:List α):(a++d :: b).eraseIdx a.length=a++b:=by
 induction a with
 | nil=>rfl
 | cons x a ih=>simp only [List.cons_append,List.length_cons,List.eraseIdx_cons_succ,ih]
theorem Remove_run {H : Hp} {o : Nat} {s : Sto} {A : List Nat} (h : StoreAt H o s A) (hk : StoOk s) (n : Txt) :
    ∃ H' A',C_store_Store_Remove [.ptr o 0,.str n] H=some (.int .i64 (s.remove n).1,H')∧StoRes H H' o (s.remove n).2 A A':=by
 obtain ⟨m,clk,ds,h,rfl⟩:=h
 obtain ⟨p,e,H1,q1,q2,q3,q4⟩:=open_run h hk.count n
 rw [F_store_Store_Remove_eq]
 unfold F_store_Store_Remove Sto.remove
 rcases q4 with ⟨c1,rfl⟩ | ⟨c1,c2,rfl⟩ | ⟨c1,rfl,a,d,b,rfl,c3,c4,c5,rfl⟩
 ·have e1:((19:Int) == 0)=false:=rfl
  rw [if_pos c1]
  exact ⟨H1,_,by simp only [q1,go_sem,List.getElem?_cons_zero,List.getElem?_cons_succ,e1,store_Store_Remove_J1_eq],q2.res q3⟩
 ·have e1:((5:Int) == 0)=false:=rfl
  rw [if_neg (by simp [c1]),c2]
  exact ⟨H1,_,by simp only [q1,go_sem,List.getElem?_cons_zero,List.getElem?_cons_succ,e1,store_Store_Remove_J1_eq],q2.res q3⟩
 ·have e1:((0:Int) == 0)=true:=rfl
  rw [if_neg (by simp [c1]),c5]
  obtain ⟨k1,hd,k3,k4⟩:=q2.mid
  have hfile:usedL s.files=usedL (a.map FD.fil)+(d.fil.text.length+usedL (b.map FD.fil)):=by
   rw [← h.files,List.map_append,List.map_cons,usedL_mid]
  have hrm:rmF s.files n=a.map FD.fil++b.map FD.fil:=by rw [← h.files,rmF_map a d b n c3 c4]
  have hup:usedL (rmF s.files n)=usedL s.files - d.fil.text.length:=by rw [hrm,usedL_app,hfile];omega
  have hused:=hk.used
  have hlim:=hk.limit
  have hc:H1[o]?=some (.cells (stC m s.tick)):=q2.cells
  have l1:=ld hc 1 (v:=.int .i64 (usedL s.files:Int)) (by rw [← tick_files s];rfl)
  have l3:=ld hc 3 (v:=.map m) rfl
  have m0:=ld hd.cells 0 (v:=d.tx) rfl
  have hlen:=hd.text.len 5
  have hlk:alookup .string .nilp false (.map m) (.str n) H1=some (.ptr d.f 0):=by
   rcases q2.look n with ⟨k,_⟩ | ⟨a',d',b',k5,k6,k7,k8,k9⟩
   ·rw [tick_files,c5] at k;cases k
   ·rw [k9]
    have he:findK (.str n) ((a++d :: b).map FD.ent) 0=findK (.str n) ((a'++d' :: b').map FD.ent) 0:=by rw [k5]
    rw [findK_some a d b n 0 c3 c4,findK_some a' d' b' n 0 k6 k7] at he
    injection he with he
    injection he with he
    injection he with _ he
    injection he with he
    rw [he]
  have hw:IntKind.i64.wrap ((usedL s.files:Int) - (d.fil.text.length:Int))=((usedL s.files - d.fil.text.length:Nat):Int):=by rw [wrap64 (by omega) (by omega)];omega
  have s1:=st hc 1 (v:=.int .i64 ((usedL s.files - d.fil.text.length:Nat):Int)) rfl rfl (by simp [stC])
  have g1:=get_set_eq (AObj.cells (List.set (stC m s.tick) 1 (.int .i64 ((usedL s.files - d.fil.text.length:Nat):Int)))) hc
  have g2:=get_set_ne (.cells (List.set (stC m s.tick) 1 (.int .i64 ((usedL s.files - d.fil.text.length:Nat):Int)))) h.om q2.map
  have n3:=ld g1 3 (v:=.map m) rfl
  generalize hH2:H1.set o (.cells (List.set (stC m s.tick) 1 (.int .i64 ((usedL s.files - d.fil.text.length:Nat):Int))))=H2 at s1 g1 g2 n3
  have hdel:amapDel .string (.map m) (.str n) H2=some (.tuple [],H2.set m (.map ((a++b).map FD.ent) clk)):=by
   have hkk:keyOk .string (.str n)=true:=rfl
   unfold amapDel
   dsimp only
   rw [g2]
   dsimp only
   rw [if_pos hkk,findK_some a d b n 0 c3 c4]
   dsimp only
   rw [Nat.zero_add,List.map_append,List.map_cons,show a.length=(a.map FD.ent).length by simp,eraseIdx_mid,List.map_append]
  have hS:Stp [o,m] H1 (H2.set m (.map ((a++b).map FD.ent) clk)):=by
   rw [← hH2]
   exact (Stp.set _ _ (by simp)).trans (Stp.set _ _ (by simp)) (fun _ h=>h) fun _ h=>.inl h
  have hsub:∀ y ∈ a++b,y ∈ a++d :: b:=fun y hy=>by rcases List.mem_append.1 hy with k | k <;> simp [k]
  refine ⟨H2.set m (.map ((a++b).map FD.ent) clk),o :: m :: (a++b).flatMap FD.own,?_,⟨⟨m,clk,a++b,⟨?_,?_,?_,?_,?_,?_⟩,rfl⟩,?_,?_⟩⟩
  ·have hdrop : C_store_Store_drop [.ptr o 0, .str n] H1 = some (.tuple [], H2.set m (.map ((a ++ b).map FD.ent) clk)) := by
      rw [F_store_Store_drop_eq]
      unfold F_store_Store_drop
      simp only [go_sem,l3,hlk,l1,m0,hlen,hw,s1,n3,hdel]
   simp only [q1,go_sem,List.getElem?_cons_zero,List.getElem?_cons_succ,e1,hdrop,store_Store_Remove_J1_eq]
  ·show _=rmF s.files n
   rw [hrm,List.map_append]
  ·rw [get_set_ne _ h.om.symm g1]
   simp only [stC,hup]
   rfl
  ·exact get_set_eq _ g2
  ·intro y hy
   refine (q2.file y (hsub y hy)).frame fun z hz=>hS.at' z ((q2.file y (hsub y hy)).lt z hz) ?_
   have:=q2.own_lt (hsub y hy) hz
   simp [this.1,this.2]
  ·refine (List.Sublist.nodup ?_ h.nd)
   rw [List.flatMap_append,List.flatMap_append,List.flatMap_cons]
   exact ((List.Sublist.refl _).append (List.sublist_append_right _ _)).cons_cons m |>.cons_cons o
  ·obtain ⟨b1,b2⟩:=h.born
   refine ⟨?_,fun y hy=>b2 y (hsub y hy)⟩
   rw [List.map_append,List.map_cons] at b1
   rw [List.map_append]
   exact List.Sublist.nodup ((List.Sublist.refl _).append (List.sublist_cons_self _ _)) b1
  ·refine q3.trans hS (C:=o :: m :: (a++d :: b).flatMap FD.own) (fun x hx=>by rw [List.mem_singleton.1 hx];simp) fun x hx=>.inl ?_
   simp at hx
   rcases hx with e | e <;> subst e <;> simp
  ·intro x hx
   rcases List.mem_cons.1 hx with e | hx
   ·subst e;exact .inl (by simp)
   rcases List.mem_cons.1 hx with e | hx
   ·subst e;exact .inl (by simp)
   obtain ⟨y,hy,hxy⟩:=List.mem_flatMap.1 hx
   exact .inl (List.mem_cons_of_mem _ (List.mem_cons_of_mem _ (List.mem_flatMap.2 ⟨y,hsub y hy,hxy⟩)))

def listF (l:List Fil):List Fil:=(sortK (l.map Fil.name)).filterMap (getF l)
def filAV (f:Fil):AV:=.agg [.str f.name,.int .i64 (f.text.length:Int),.int .i64 (f.syn:Int)]
theorem strKs_ent:∀ ds:List FD,strKs (ds.map FD.ent)=some (ds.map fun d=>d.fil.name):=by
 intro ds
 induction ds with
 | nil=>rfl
 | cons d ds ih=>rw [List.map_cons,FD.ent,strKs,ih];rfl
theorem freshB_of:∀ l:List Txt,l.Nodup→freshB l=true:=by
 intro l
 induction l with
 | nil=>intro _;rfl
 | cons s r ih =>
  intro h
  obtain ⟨h1,h2⟩:=List.nodup_cons.1 h
  simp only [freshB,Bool.and_eq_true,List.all_eq_true]
  refine ⟨fun t ht=>?_,ih h2⟩
  have:t ≠ s:=fun e=>h1 (e ▸ ht)
  simp [this]
theorem bornB_of (c:Nat):∀ l:List Nat,l.Nodup→(∀ n ∈ l,n < c)→bornB c l=true:=by
 intro l
 induction l with
 | nil=>intro _ _;rfl
 | cons s r ih =>
  intro h hc
  obtain ⟨h1,h2⟩:=List.nodup_cons.1 h
  simp only [bornB,Bool.and_eq_true,List.all_eq_true,decide_eq_true_eq]
  refine ⟨hc s (by simp),fun t ht=>?_,ih h2 fun n hn=>hc n (by simp [hn])⟩
  have:t ≠ s:=fun e=>h1 (e ▸ ht)
  simp [this]
theorem name_len {n:Txt} (h:nameB n=true):n.length≤32:=by
 unfold nameB at h
 rw [Bool.and_eq_true,decide_eq_true_eq] at h
 exact h.2
theorem names_run {H:Hp} {o m clk:Nat} {ds:List FD} {s:Sto} (h:StAt H o m clk ds s) (hk:StoOk s):∃ x,namesE.run [.ptr o 0] H=some (x,H)∧SS x (sortK (s.files.map Fil.name)):=by
 have hnm:ds.map (fun d=>d.fil.name)=s.files.map Fil.name:=by rw [← h.files,List.map_map];rfl
 have hv:namesOf H o=some (namesV (s.files.map Fil.name)):=by
  unfold namesOf
  rw [h.cells]
  dsimp only
  rw [show ([AV.int .i64 (s.limit:Int),.int .i64 (usedL s.files:Int),.int .i64 (s.peak:Int),.map m,.bool s.crashed,.int .i64 (s.count:Int)])[3]?=some (.map m) from rfl]
  dsimp only
  rw [h.map]
  dsimp only
  rw [strKs_ent,hnm]
  dsimp only
  rw [if_pos]
  have hb:=bornB_of clk _ h.born.1 fun n hn=>by
   obtain ⟨d,hd,rfl⟩:=List.mem_map.1 hn
   exact h.born.2 d hd
  have he:(ds.map FD.ent).map (·.2.2)=ds.map FD.born:=by rw [List.map_map];rfl
  rw [he,hb,freshB_of _ hk.nd]
  simp only [Bool.true_and,Bool.and_eq_true,List.all_eq_true,decide_eq_true_eq,List.length_map]
  refine ⟨fun t ht=>?_,by have:=hk.len;omega⟩
  obtain ⟨f,hf,rfl⟩:=List.mem_map.1 ht
  have:=name_len (hk.name f hf)
  omega
 refine ⟨namesV (s.files.map Fil.name),?_,?_⟩
 ·show (namesOf H o).map (·,H)=_
  rw [hv];rfl
 ·unfold namesV
  split
  ·rename_i hn;exact .inl ⟨rfl,by rw [hn];rfl⟩
  ·rename_i s0 r hn;exact .inr ⟨.no,by rw [hn]⟩
theorem Keep.stp {H H':Hp} (h:Keep H.length H H') (hl:H.length≤H'.length) (A:List Nat):Stp A H H':=⟨hl,fun a ha _=>h a ha⟩
theorem list_loop {H0 : Hp} {o m clk : Nat} {ds : List FD} {s : Sto} (h : StAt H0 o m clk ds s) (hk : StoOk s) {x : AV} {ns : List Txt} (hx : SS x ns) (hns : ∀ n ∈ ns, ∃ f, getF s.files n = some f) (hl : ns.length ≤ 64) (HB : Hp) : ∀ (r d : List Txt) (x3 : AV) (H : Hp), ns = d ++ r →
    RowN H0.length H 3 x3 ((d.filterMap (getF s.files)).map filAV)→Keep H0.length H0 H→H0.length≤H.length →
    ∃ y H',store_Store_List_L1 (.ptr o 0) x3 x (.int .i64 (ns.length:Int)) (.int .i64 (d.length:Int)) HB H=some (y,H')∧RowN H0.length H' 3 y ((ns.filterMap (getF s.files)).map filAV)∧Keep H0.length H0 H'∧H0.length≤H'.length:=by
 intro r
 induction r with
 | nil =>
  intro d x3 H hd h3 hK hlen
  rw [List.append_nil] at hd
  subst hd
  have hlt:decide ((ns.length:Int) < (ns.length:Int))=false:=by simp
  rw [store_Store_List_L1_eq]
  simp only [go_sem,hlt,store_Store_List_J2_eq]
  exact ⟨_,_,rfl,h3,hK,hlen⟩
 | cons n r ih =>
  intro d x3 H hd h3 hK hlen
  have hlen2:ns.length=d.length+(r.length+1):=by rw [hd];simp
  have hlt:decide ((d.length:Int) < (ns.length:Int))=true:=by simp;omega
  have hw1:IntKind.i64.wrap ((d.length:Int)+1)=((d.length+1:Nat):Int):=by rw [wrap64 (by omega) (by omega)];omega
  have hin:ns[d.length]?=some n:=by rw [hd,List.getElem?_append_right (Nat.le_refl _)];simp
  have hidx:=SS.idx hx hin
  have hat:StAt H o m clk ds s:=h.frame fun a ha=>hK a (h.lt a ha)
  obtain ⟨f,hf⟩:=hns n (by rw [hd];simp)
  have l3:=ld hat.cells 3 (v:=.map m) rfl
  rcases hat.look n with ⟨k,_⟩ | ⟨a',d',b',k5,k6,k7,k8,k9⟩
  ·rw [hf] at k;cases k
  ·have hfd:=hat.file d' (by rw [k5];simp)
   have hfe:f=d'.fil:=by rw [hf] at k8;injection k8
   have m0:=ld hfd.cells 0 (v:=d'.tx) rfl
   have m1:=ld hfd.cells 1 (v:=.int .i64 (d'.fil.syn:Int)) rfl
   have hlen3:=hfd.text.len 5
   have hfill:(afill [(0,1,.str n),(1,1,.int .i64 (d'.fil.text.length:Int)),(2,1,.int .i64 (d'.fil.syn:Int))] [(.str []),(.int .i64 0),(.int .i64 0)]).map AV.agg=some (filAV d'.fil):=by rw [← k6];rfl
   have hone:(setElems 3 [(0,filAV d'.fil)] [(.agg [(.str []),(.int .i64 0),(.int .i64 0)])]).map (AV.vs 3 .clip)=some (.vs 3 .clip [filAV d'.fil]):=rfl
   have hdl:(d.filterMap (getF s.files)).length≤d.length:=List.length_filterMap_le _ _
   obtain ⟨x',H1,q1,q2,q3,q4,_⟩:=h3.app hlen 32 (.vs 3 .clip [filAV d'.fil]) [filAV d'.fil] rfl (by simp;omega)
   obtain ⟨y,H',p1,p2,p3,p4⟩:=ih (d++[n]) x' H1 (by rw [hd];simp) (by rw [List.filterMap_append,List.map_append];simpa [hf,hfe] using q2) (hK.trans q4) q3
   rw [List.length_append,List.length_singleton] at p1
   refine ⟨y,H',?_,p2,p3,p4⟩
   rw [store_Store_List_L1_eq]
   simp only [go_sem,hlt,store_Store_List_J3_eq,hidx,aload_vpc,l3,k9,m0,m1,hlen3,hfill,hone,q1,store_Store_List_J4_eq,hw1]
   exact p1
theorem sortK_mem (l:List Txt) (n:Txt):n ∈ sortK l ↔ n ∈ l:=(sortK_perm l).mem_iff
theorem getF_mem {l:List Fil} {n:Txt} (h:n ∈ l.map Fil.name):∃ f,getF l n=some f:=by
 cases hg:getF l n with
 | some f=>exact ⟨f,rfl⟩
 | none =>
  obtain ⟨f,hf,rfl⟩:=List.mem_map.1 h
  exact absurd rfl (getF_none.1 hg f hf)
theorem closeV_filAV (H:Hp) (n f:Nat) (x:Fil):closeV H n (f+2) (filAV x)=some (filAV x):=rfl
theorem mapM_fil (H:Hp) (n f:Nat):∀ l:List Fil,(l.map filAV).mapM (closeV H n (f+2))=some (l.map filAV):=by
 intro l
 induction l with
 | nil=>rfl
 | cons a l ih=>rw [List.map_cons,List.mapM_cons,closeV_filAV,ih];rfl
theorem roC_of {f:List AV→Hp→Res} {args:List AV} {H H1:Hp} {v v':AV} (hc:f args H=some (v,H1)) (hK:Keep H.length H H1) (hl:H.length≤H1.length) (hv:closeV H1 H.length 6 v=some v'):roC f args H=some (v',H):=by
 have ht:H1.take H.length=H:=by
  apply List.ext_getElem?
  intro i
  by_cases hi:i < H.length
  ·rw [List.getElem?_take_of_lt hi,hK i hi]
  ·rw [List.getElem?_eq_none (by simp;omega),List.getElem?_eq_none (by omega)]
 unfold roC
 rw [hc]
 dsimp only
 rw [ht,if_pos (eqbH_refl _),hv]
theorem List_ro {H:Hp} {o:Nat} {s:Sto} {A:List Nat} (h:StoreAt H o s A) (hk:StoOk s):∃ x,roC C_store_Store_List [.ptr o 0] H=some (x,H)∧Sl 3 x ((listF s.files).map filAV):=by
 obtain ⟨m,clk,ds,h,rfl⟩:=h
 obtain ⟨x,q1,q2⟩:=names_run h hk
 have hnl:(sortK (s.files.map Fil.name)).length≤64:=by rw [(sortK_perm _).length_eq,List.length_map];exact hk.len
 obtain ⟨y,H1,p1,p2,p3,p4⟩:=list_loop h hk q2 (fun n hn=>getF_mem ((sortK_mem _ _).1 hn)) hnl H _ [] .nils H rfl (.inl ⟨rfl,rfl⟩) (Keep.refl _ _) (Nat.le_refl _)
 have hrun:C_store_Store_List [.ptr o 0] H=some (y,H1):=by
  rw [F_store_Store_List_eq]
  unfold F_store_Store_List
  simp only [go_sem,store_Store_List_J1_eq,q1,SS.len q2 9]
  exact p1
 rcases p2 with ⟨rfl,hn⟩ | ⟨t,e,rfl,ht,hnt⟩
 ·exact ⟨.nils,roC_of hrun p3 p4 rfl,.inl ⟨rfl,hn⟩⟩
 ·refine ⟨.vs 3 (if t < H.length then .own t e else .no) ((listF s.files).map filAV),roC_of hrun p3 p4 (by rw [closeV_vs',mapM_fil];rfl),.inr ⟨_,rfl⟩⟩
theorem New_run (n:Int) (hn:-9223372036854775808≤n∧n≤9223372036854775807) (H:Hp):∃ H',C_store_New [.int .i64 n] H=some (.ptr (H.length+1) 0,H')∧StoreAt H' (H.length+1) ⟨(min (max n 0) 262144).toNat,0,[],false,0⟩ [H.length+1,H.length]∧H'=H++[.map [] 0,.cells [.int .i64 (min (max n 0) 262144),.int .i64 0,.int .i64 0,.map H.length,.bool false,.int .i64 0]]:=by
 have hf:(afill [(0,1,.int .i64 (min (max n 0) 262144)),(3,1,.map H.length)] [(.int .i64 0),(.int .i64 0),(.int .i64 0),.nilm,(.bool false),(.int .i64 0)]).map AV.agg=some (.agg [.int .i64 (min (max n 0) 262144),.int .i64 0,.int .i64 0,.map H.length,.bool false,.int .i64 0]):=rfl
 have hb:∀ l:List AV,abox (.agg l) (H++[.map [] 0])=some (.ptr (H.length+1) 0,H++[.map [] 0]++[.cells l]):=fun l=>by rw [abox_of rfl];simp [AV.cells]
 refine ⟨_,?_,⟨H.length,0,[],⟨rfl,?_,?_,by simp,by simp,by simp,by simp⟩,rfl⟩,rfl⟩
 ·rw [F_store_New_eq]
  unfold F_store_New
  simp only [go_sem,hf,hb,List.append_assoc,List.cons_append,List.nil_append]
 ·have:((min (max n 0) 262144).toNat:Int)=min (max n 0) 262144:=by omega
  simp [usedL,this]
 ·simp
end Go.Am
namespace Go.Am
set_option linter.unusedSimpArgs false
set_option linter.unusedVariables false
set_option linter.unusedSectionVars false
set_option maxRecDepth 100000

def xor32 (a b:Int):Int:=IntKind.u32.wrap ((BitVec.ofInt IntKind.u32.bits a ^^^ BitVec.ofInt IntKind.u32.bits b).toNat:Int)
def and32 (a b:Int):Int:=IntKind.u32.wrap ((BitVec.ofInt IntKind.u32.bits a &&& BitVec.ofInt IntKind.u32.bits b).toNat:Int)
theorem ibin_xor32 (a b:Int):ibin .xor (.int .u32 a) (.int .u32 b)=some (.int .u32 (xor32 a b)):=by simp [ibin,ashift,intbin,xor32]
theorem ibin_and32 (a b:Int):ibin .and (.int .u32 a) (.int .u32 b)=some (.int .u32 (and32 a b)):=by simp [ibin,ashift,intbin,and32]
def shrK (k:IntKind) (n:Nat) (a:Int):Int:=a.fdiv (2 ^ (min n k.bits))
def shl8 (a:Int):Int:=IntKind.i64.wrap (a * 2 ^ (min 8 IntKind.i64.bits))
theorem ibin_shr (k k':IntKind) (a:Int) (n:Nat):ibin .shr (.int k a) (.int k' (n:Int))=some (.int k (shrK k n a)):=by
 simp only [ibin,ashift,shrK]
 rw [if_neg (by omega),Int.toNat_natCast]
theorem and32_range (a:Int):0≤and32 a 15∧and32 a 15 < 16:=by
 have h:(BitVec.ofInt IntKind.u32.bits a &&& BitVec.ofInt IntKind.u32.bits 15).toNat≤15:=by
  rw [BitVec.toNat_and]
  exact Nat.le_trans Nat.and_le_right (by decide)
 unfold and32
 generalize (BitVec.ofInt IntKind.u32.bits a &&& BitVec.ofInt IntKind.u32.bits 15).toNat=n at h
 have:IntKind.u32.wrap (n:Int)=(n:Int):=by
  have e1:(2 ^ IntKind.u32.bits:Int)=4294967296:=by decide
  have e2:IntKind.u32.signed=false:=rfl
  unfold IntKind.wrap
  simp only [e1,e2,Bool.false_and,Bool.false_eq_true,if_false]
  omega
 rw [this]
 omega
def tabC (i:Int):Int:=crcTab.getD i.toNat 0
theorem tab_run {i:Int} (h:0≤i∧i < 16) (H:Hp):∃ p,aindexA 16 1 crcV (.int .u32 i)=some p∧aload false 1 p H=some (.int .u32 (tabC i)):=by
 have hl:crcTab.length=16:=rfl
 refine ⟨.vp ((crcTab.map (AV.int .u32)).drop (i.toNat * 1)),?_,?_⟩
 ·unfold aindexA
  dsimp only
  rw [if_pos (by omega)]
  unfold afield crcV
  dsimp only
  rw [if_pos (by simp [hl];omega)]
 ·unfold aload Go.Am.apart tabC
  dsimp only
  rw [if_neg (by simp),List.getElem?_drop,Nat.add_zero,Nat.mul_one,List.getElem?_map,List.getElem?_eq_getElem (show i.toNat < crcTab.length by omega),List.getD_eq_getElem?_getD,List.getElem?_eq_getElem (show i.toNat < crcTab.length by omega)]
  rfl
def halfC (c:Int):Int:=xor32 (tabC (and32 c 15)) (shrK .u32 4 c)
def stepC (c:Int) (b:UInt8):Int:=halfC (halfC (xor32 c (IntKind.u32.wrap (b.toNat:Int))))
def crcL (s:Txt):Int:=s.foldl stepC 4294967295
def crcS (s:Txt):Int:=xor32 IntKind.u32.max (crcL s)
theorem crc_loop (s:Txt) (hs:s.length≤1048576) (H0 H:Hp):∀ (r d:Txt),s=d++r→frame_Crc_L1 (.str s) (.int .u32 (crcL d)) (.int .i64 (s.length:Int)) (.int .i64 (d.length:Int)) H0 H=some (.int .u32 (crcS s),H):=by
 intro r
 induction r with
 | nil =>
  intro d hd
  rw [List.append_nil] at hd
  subst hd
  have hlt:decide ((s.length:Int) < (s.length:Int))=false:=by simp
  have hx:aun .xor (.int .u32 (crcL s))=some (.int .u32 (crcS s)):=rfl
  rw [frame_Crc_L1_eq]
  simp only [go_sem,hlt,frame_Crc_J1_eq,hx]
 | cons b r ih =>
  intro d hd
  have hlen:s.length=d.length+(r.length+1):=by rw [hd];simp
  have hlt:decide ((d.length:Int) < (s.length:Int))=true:=by simp;omega
  have hw1:IntKind.i64.wrap ((d.length:Int)+1)=((d.length+1:Nat):Int):=by rw [wrap64 (by omega) (by omega)];omega
  have hidx:aindexStr (.str s) (.int .i64 (d.length:Int))=some (.int .u8 (b.toNat:Int)):=aindexStr_of (by rw [hd,List.getElem?_append_right (Nat.le_refl _)];simp)
  have hcv:cvInt .u32 (.int .u8 (b.toNat:Int))=some (.int .u32 (IntKind.u32.wrap (b.toNat:Int))):=rfl
  obtain ⟨p1,a1,a2⟩:=tab_run (and32_range (xor32 (crcL d) (IntKind.u32.wrap (b.toNat:Int)))) H
  obtain ⟨p2,b1,b2⟩:=tab_run (and32_range (halfC (xor32 (crcL d) (IntKind.u32.wrap (b.toNat:Int))))) H
  have s1:=ibin_shr .u32 .u64 (xor32 (crcL d) (IntKind.u32.wrap (b.toNat:Int))) 4
  have s2:=ibin_shr .u32 .u64 (halfC (xor32 (crcL d) (IntKind.u32.wrap (b.toNat:Int)))) 4
  rw [show ((4:Nat):Int)=4 from rfl] at s1 s2
  have ih':=ih (d++[b]) (by rw [hd];simp)
  rw [List.length_append,List.length_singleton,show crcL (d++[b])=stepC (crcL d) b by simp [crcL]] at ih'
  have e1:xor32 (tabC (and32 (xor32 (crcL d) (IntKind.u32.wrap (b.toNat:Int))) 15)) (shrK .u32 4 (xor32 (crcL d) (IntKind.u32.wrap (b.toNat:Int))))=halfC (xor32 (crcL d) (IntKind.u32.wrap (b.toNat:Int))):=rfl
  rw [frame_Crc_L1_eq]
  simp only [go_sem,hlt,frame_Crc_J2_eq,hidx,hcv,ibin_xor32,ibin_and32,a1,a2,s1,e1,b1,b2,s2,frame_Crc_J3_eq,hw1]
  exact ih'
theorem crc_flat (s:Txt) (hs:s.length≤1048576) (H:Hp):flatC C_frame_Crc [.str s] H=some (.int .u32 (crcS s),H):=by
 refine flat1 (a':=.str s) rfl (H1:=[]) ?_ rfl
 rw [F_frame_Crc_eq]
 unfold F_frame_Crc
 simp only [go_sem]
 exact crc_loop s hs [] [] s [] rfl
def byteOf (n:Int):UInt8:=UInt8.ofNat (IntKind.u8.wrap n).toNat
def sumS (s:Txt):Txt:=[byteOf (crcS s),byteOf (shrK .u32 8 (crcS s)),byteOf (shrK .u32 16 (crcS s)),byteOf (shrK .u32 24 (crcS s))]
theorem sum_flat (s:Txt) (hs:s.length≤1048576) (H:Hp):flatC C_frame_sum [.str s] H=some (.str (sumS s),H):=by
 have s8:=ibin_shr .u32 .u64 (crcS s) 8
 have s16:=ibin_shr .u32 .u64 (crcS s) 16
 have s24:=ibin_shr .u32 .u64 (crcS s) 24
 rw [show ((8:Nat):Int)=8 from rfl] at s8
 rw [show ((16:Nat):Int)=16 from rfl] at s16
 rw [show ((24:Nat):Int)=24 from rfl] at s24
 have cv:∀ n,cvInt .u8 (.int .u32 n)=some (.int .u8 (IntKind.u8.wrap n)):=fun n=>rfl
 have hse:∀ a b c d:Int,(setElems 1 [(0,.int .u8 a),(1,.int .u8 b),(2,.int .u8 c),(3,.int .u8 d)] [(.int .u8 0),(.int .u8 0),(.int .u8 0),(.int .u8 0)]).map (AV.vs 1 .clip)=some (.vs 1 .clip [.int .u8 a,.int .u8 b,.int .u8 c,.int .u8 d]):=fun a b c d=>rfl
 have hrd:∀ (a b c d:Int) (H:Hp),cvRd (.vs 1 .clip [.int .u8 a,.int .u8 b,.int .u8 c,.int .u8 d]) H=some (.str [UInt8.ofNat a.toNat,UInt8.ofNat b.toNat,UInt8.ofNat c.toNat,UInt8.ofNat d.toNat]):=fun a b c d H=>rfl
 refine flat1 (a':=.str s) rfl (H1:=[]) ?_ rfl
 rw [F_frame_sum_eq]
 unfold F_frame_sum
 simp only [crc_flat s hs,go_sem,cv,s8,s16,s24,hse,hrd]
 rfl
theorem sumS_len (s:Txt):(sumS s).length=4:=rfl

def headS (s:Txt):Txt:=[byteOf (shrK .i64 8 (s.length:Int)),byteOf (s.length:Int)]++s
def recS (s:Txt):Txt:=headS s++sumS (headS s)
theorem headS_len (s:Txt):(headS s).length=s.length+2:=by simp [headS]
theorem recS_len (s:Txt):(recS s).length=s.length+6:=by simp [recS,headS_len,sumS_len]
theorem rec_flat (s:Txt) (hs:s.length≤1048576) (H:Hp):flatC C_frame_Record [.str s] H=some (if 4096 < s.length then .tuple [.str [],.int .i64 3] else .tuple [.str (recS s),.int .i64 0],H):=by
 refine flat1 (a':=.str s) rfl (H1:=[]) ?_ (by split <;> rfl)
 rw [F_frame_Record_eq]
 unfold F_frame_Record
 by_cases h:4096 < s.length
 ·have hd:decide ((4096:Int) < (s.length:Int))=true:=by rw [decide_eq_true_eq];omega
  simp only [go_sem,hd,if_pos h]
 ·have hd:decide ((4096:Int) < (s.length:Int))=false:=by simp;omega
  have s8:=ibin_shr .i64 .u64 (s.length:Int) 8
  rw [show ((8:Nat):Int)=8 from rfl] at s8
  have cv:∀ n,cvInt .u8 (.int .i64 n)=some (.int .u8 (IntKind.u8.wrap n)):=fun n=>rfl
  have hse:∀ a b:Int,(setElems 1 [(0,.int .u8 a),(1,.int .u8 b)] [(.int .u8 0),(.int .u8 0)]).map (AV.vs 1 .clip)=some (.vs 1 .clip [.int .u8 a,.int .u8 b]):=fun a b=>rfl
  have hrd:∀ (a b:Int) (H:Hp),cvRd (.vs 1 .clip [.int .u8 a,.int .u8 b]) H=some (.str [UInt8.ofNat a.toNat,UInt8.ofNat b.toNat]):=fun a b H=>rfl
  have hhd:[UInt8.ofNat (IntKind.u8.wrap (shrK .i64 8 (s.length:Int))).toNat,UInt8.ofNat (IntKind.u8.wrap (s.length:Int)).toNat]++s=headS s:=rfl
  have a1:sbin .add (.str [UInt8.ofNat (IntKind.u8.wrap (shrK .i64 8 (s.length:Int))).toNat,UInt8.ofNat (IntKind.u8.wrap (s.length:Int)).toNat]) (.str s)=some (.str (headS s)):=by rw [sbin_add (by simp;omega),hhd]
  have a2:sbin .add (.str (headS s)) (.str (sumS (headS s)))=some (.str (recS s)):=by rw [sbin_add (by rw [headS_len,sumS_len];omega)];rfl
  simp only [go_sem,hd,frame_Record_J1_eq,s8,cv,hse,hrd,a1,sum_flat (headS s) (by rw [headS_len];omega),a2,if_neg h]
def encS:List Txt→Txt
 | []=>[]
 | s :: r=>recS s++encS r
theorem encS_app (a b:List Txt):encS (a++b)=encS a++encS b:=by
 induction a with
 | nil=>rfl
 | cons s a ih=>simp only [List.cons_append,encS,ih,List.append_assoc]
def costR:List Txt→Nat
 | []=>0
 | s :: r=>s.length+6+costR r
theorem encS_len (l:List Txt):(encS l).length=costR l:=by
 induction l with
 | nil=>rfl
 | cons s r ih=>simp only [encS,costR,List.length_append,recS_len,ih]
theorem costR_app (a b:List Txt):costR (a++b)=costR a+costR b:=by
 induction a with
 | nil=>simp [costR]
 | cons s a ih=>simp only [List.cons_append,costR,ih];omega
def fitsR (l:List Txt):Bool:=l.all fun s=>decide (s.length≤4096)
theorem text_run (acc s:Txt) (h:acc.length+s.length≤4194304):∃ v,textE.run [.ptr 0 0,.str s] [AObj.bld bldT bldU acc]=some (v,[AObj.bld bldT bldU (acc++s)]):=by
 have h2:acc.length+s.length≤maxB:=by unfold maxB;omega
 refine ⟨.tuple [.int .i64 s.length,.nili],?_⟩
 simp only [textE,bText,bldE,bldRun,textM,List.getElem?_cons_zero,bldF,and_self,if_true,if_pos h2,List.set_cons_zero]
theorem enc_loop {x : AV} {l : List Txt} (hx : SS x l) (hL : ∀ s ∈ l, s.length ≤ 1048576) (hl : costR l ≤ 4194304) (H0 : Hp) : ∀ (r d : List Txt), l = d ++ r → fitsR d = true →
    ∃ H',frame_Encode_L1 (.ptr 0 0) x (.int .i64 (l.length:Int)) (.int .i64 (d.length:Int)) H0 [AObj.bld bldT bldU (encS d)]=some (if fitsR l=true then .tuple [.str (encS l),.int .i64 0] else .tuple [.str [],.int .i64 3],H'):=by
 intro r
 induction r with
 | nil =>
  intro d hd hf
  rw [List.append_nil] at hd
  subst hd
  have hlt:decide ((l.length:Int) < (l.length:Int))=false:=by simp
  have hst:stringE.run [.ptr 0 0] [AObj.bld bldT bldU (encS l)]=some (.str (encS l),[AObj.bld bldT bldU (encS l)]):=string_run _
  rw [frame_Encode_L1_eq]
  simp only [go_sem,hlt,frame_Encode_J1_eq,hst,if_pos hf]
  exact ⟨_,rfl⟩
 | cons s r ih =>
  intro d hd hf
  have hcl:∀ l:List Txt,6 * l.length≤costR l:=by
   intro l
   induction l with
   | nil=>simp [costR]
   | cons s l ih=>simp only [costR,List.length_cons];omega
  have:=hcl l
  have hlen:l.length=d.length+(r.length+1):=by rw [hd];simp
  have hlt:decide ((d.length:Int) < (l.length:Int))=true:=by simp;omega
  have hw1:IntKind.i64.wrap ((d.length:Int)+1)=((d.length+1:Nat):Int):=by rw [wrap64 (by omega) (by omega)];omega
  have his:l[d.length]?=some s:=by rw [hd,List.getElem?_append_right (Nat.le_refl _)];simp
  have hidx:=SS.idx hx his
  have hs:=hL s (by rw [hd];simp)
  have hrec:=rec_flat s hs [AObj.bld bldT bldU (encS d)]
  rw [frame_Encode_L1_eq]
  by_cases h:4096 < s.length
  ·have hno : fitsR l = false := by
      rw [hd]
      simp only [fitsR,List.all_append,List.all_cons]
      rw [show decide (s.length≤4096)=false by simp;omega]
      simp
   have e3:((3:Int) != 0)=true:=rfl
   rw [if_pos h] at hrec
   simp only [go_sem,hlt,frame_Encode_J2_eq,hidx,aload_vpc,hrec,List.getElem?_cons_zero,List.getElem?_cons_succ,e3,hno,Bool.false_eq_true,if_false]
   exact ⟨_,rfl⟩
  ·have e0:((0:Int) != 0)=false:=rfl
   rw [if_neg h] at hrec
   have hcost:costR l=costR d+(s.length+6+costR r):=by rw [hd,costR_app];rfl
   obtain ⟨v,hv⟩:=text_run (encS d) (recS s) (by rw [encS_len,recS_len];omega)
   have hen:encS (d++[s])=encS d++recS s:=by rw [encS_app];simp [encS]
   obtain ⟨H',m1⟩:=ih (d++[s]) (by rw [hd];simp) (by
    have:fitsR (d++[s])=(fitsR d && (decide (s.length≤4096) && true)):=by simp [fitsR]
    rw [this,hf];simp;omega)
   rw [List.length_append,List.length_singleton,hen] at m1
   refine ⟨H',?_⟩
   simp only [go_sem,hlt,frame_Encode_J2_eq,hidx,aload_vpc,hrec,List.getElem?_cons_zero,List.getElem?_cons_succ,e0,frame_Encode_J4_eq,hv,frame_Encode_J3_eq,hw1]
   exact m1
theorem enc_flat {x : AV} {l : List Txt} (hx : SS x l) (hL : ∀ s ∈ l, s.length ≤ 1048576) (hl : costR l ≤ 4194304) (H : Hp) :
    flatC C_frame_Encode [x] H=some (if fitsR l=true then .tuple [.str (encS l),.int .i64 0] else .tuple [.str [],.int .i64 3],H):=by
 obtain ⟨x1,k1,k2⟩:=SS.closed hx [] 0 4
 obtain ⟨H',m1⟩:=enc_loop k2 hL hl [] l [] rfl rfl
 refine flat1 k1 (H1:=H') ?_ (by split <;> rfl)
 rw [F_frame_Encode_eq]
 unfold F_frame_Encode
 simp only [go_sem,SS.len k2 9,List.length_nil,List.nil_append]
 exact m1

def or64 (a b:Int):Int:=IntKind.i64.wrap ((BitVec.ofInt IntKind.i64.bits a ||| BitVec.ofInt IntKind.i64.bits b).toNat:Int)
def rdLen (a b:UInt8):Int:=or64 (shl8 (IntKind.i64.wrap (a.toNat:Int))) (IntKind.i64.wrap (b.toNat:Int))
theorem rdLen_all:((List.range 4097).all fun n=>decide (rdLen (byteOf (shrK .i64 8 (n:Int))) (byteOf (n:Int))=(n:Int)))=true:=by kernel_rfl
theorem rdLen_ok {n:Nat} (h:n≤4096):rdLen (byteOf (shrK .i64 8 (n:Int))) (byteOf (n:Int))=(n:Int):=by
 have:=List.all_eq_true.1 rdLen_all n (List.mem_range.2 (by omega))
 simpa using this
theorem next_flat (s rest:Txt) (hs:s.length≤4096) (hr:rest.length≤1048576) (H:Hp):flatC C_frame_Next [.str (recS s++rest),.int .i64 0] H=some (.tuple [.str s,.int .i64 ((s.length+6:Nat):Int),.int .i64 0],H):=by
 refine flat2 (a':=.str (recS s++rest)) (b':=.int .i64 0) rfl rfl (H1:=[]) ?_ rfl
 have hlen:(recS s++rest).length=s.length+6+rest.length:=by rw [List.length_append,recS_len]
 have hcons:recS s++rest=byteOf (shrK .i64 8 (s.length:Int)) :: byteOf (s.length:Int) :: (s++(sumS (headS s)++rest)):=by simp [recS,headS]
 generalize hg:recS s++rest=g at hlen hcons
 have h0:decide ((0:Int) < 0)=false:=rfl
 have h1:decide ((g.length:Int) < 0)=false:=by rw [decide_eq_false_iff_not];omega
 have sl0:asliceS (.str g) (some (.int .i64 0)) none none=some (.str g):=by
  rw [asliceS_lo .i64 (by omega) (by omega)]
  simp
 have h2:decide ((g.length:Int) < 2)=false:=by rw [decide_eq_false_iff_not];omega
 have i0:aindexStr (.str g) (.int .i64 0)=some (.int .u8 ((byteOf (shrK .i64 8 (s.length:Int))).toNat:Int)):=aindexStr_of (i:=0) (by rw [hcons];rfl)
 have i1:aindexStr (.str g) (.int .i64 1)=some (.int .u8 ((byteOf (s.length:Int)).toNat:Int)):=aindexStr_of (i:=1) (by rw [hcons];rfl)
 have cv:∀ n,cvInt .i64 (.int .u8 n)=some (.int .i64 (IntKind.i64.wrap n)):=fun n=>rfl
 have hsh:∀ a:Int,ibin .shl (.int .i64 a) (.int .u64 8)=some (.int .i64 (shl8 a)):=fun a=>rfl
 have hor:∀ a b:Int,ibin .or (.int .i64 a) (.int .i64 b)=some (.int .i64 (or64 a b)):=fun a b=>by simp [ibin,ashift,intbin,or64]
 have hrl:or64 (shl8 (IntKind.i64.wrap ((byteOf (shrK .i64 8 (s.length:Int))).toNat:Int))) (IntKind.i64.wrap ((byteOf (s.length:Int)).toNat:Int))=(s.length:Int):=rdLen_ok hs
 have h3:decide ((4096:Int) < (s.length:Int))=false:=by simp;omega
 have w6:IntKind.i64.wrap ((s.length:Int)+6)=((s.length+6:Nat):Int):=by rw [wrap64 (by omega) (by omega)];omega
 have w2:IntKind.i64.wrap ((s.length:Int)+2)=((s.length+2:Nat):Int):=by rw [wrap64 (by omega) (by omega)];omega
 have w0:IntKind.i64.wrap (0+(s.length:Int))=(s.length:Int):=by rw [wrap64 (by omega) (by omega)];omega
 have h4:decide ((g.length:Int) < ((s.length+6:Nat):Int))=false:=by simp;omega
 have sl1:asliceS (.str g) (some (.int .i64 ((s.length+2:Nat):Int))) (some (.int .i64 ((s.length+6:Nat):Int))) none=some (.str (sumS (headS s))):=by
  rw [asliceS_lh .i64 .i64 (by omega) (by omega) (by omega)]
  congr 2
  rw [← hg,Int.toNat_natCast,Int.toNat_natCast,List.take_append_of_le_length (by rw [recS_len];exact Nat.le_refl _),List.take_of_length_le (by rw [recS_len];exact Nat.le_refl _)]
  unfold recS
  rw [List.drop_append_of_le_length (by rw [headS_len];exact Nat.le_refl _),List.drop_of_length_le (by rw [headS_len];exact Nat.le_refl _)]
  rfl
 have sl2:asliceS (.str g) none (some (.int .i64 ((s.length+2:Nat):Int))) none=some (.str (headS s)):=by
  rw [asliceS_hi .i64 (by omega) (by omega)]
  congr 2
  rw [← hg,Int.toNat_natCast]
  unfold recS
  rw [List.append_assoc,List.take_append_of_le_length (by rw [headS_len];exact Nat.le_refl _),List.take_of_length_le (by rw [headS_len];exact Nat.le_refl _)]
 have sl3:asliceS (.str g) (some (.int .i64 2)) (some (.int .i64 ((s.length+2:Nat):Int))) none=some (.str s):=by
  rw [asliceS_lh .i64 .i64 (by omega) (by omega) (by omega)]
  congr 2
  rw [hcons,Int.toNat_natCast]
  simp
 have hne:(!(sumS (headS s) == sumS (headS s)))=false:=by simp
 rw [F_frame_Next_eq]
 unfold F_frame_Next
 simp only [go_sem,h0,h1,frame_Next_J1_eq,sl0,h2,frame_Next_J2_eq,i0,i1,cv,hsh,hor,hrl,h3,frame_Next_J3_eq,w6,h4,frame_Next_J4_eq,w2,sl1,sl2,sum_flat (headS s) (by rw [headS_len];omega),hne,frame_Next_J5_eq,sl3,w0]
end Go.Am
namespace Go.Am
set_option linter.unusedSimpArgs false
set_option linter.unusedVariables false
set_option linter.unusedSectionVars false
set_option maxRecDepth 100000

structure Tmp where
 owner:Txt
 names:List Txt
 sld:List Txt
 limit:Nat
 last:Nat
 closed:Bool
def NmAt (H:Hp) (x:AV) (l:List Txt):Prop:=x=.nils∧l=[] ∨ ∃ t e,x=.vs 1 (.own t e) (l.map AV.str)∧H[t]?=some (.tok e)
theorem NmAt.ss {H:Hp} {x:AV} {l:List Txt} (h:NmAt H x l):SS x l:=by
 rcases h with ⟨rfl,rfl⟩ | ⟨t,e,rfl,_⟩
 ·exact .inl ⟨rfl,rfl⟩
 ·exact .inr ⟨_,rfl⟩
theorem NmAt.frame {H H':Hp} {x:AV} {l:List Txt} (h:NmAt H x l) (hf:∀ a ∈ tokA x,H'[a]?=H[a]?):NmAt H' x l :=
 h.imp id fun ⟨t,e,h1,h2⟩=>⟨t,e,h1,(hf t (by rw [h1];simp [tokA])).trans h2⟩
def entS (p:Txt × Nat):AV × AV × Nat:=(.str p.1,.bool true,p.2)
structure TmAt (H:Hp) (o t ms clk:Nat) (nx:AV) (sl:List (Txt × Nat)) (tm:Tmp):Prop where
 cells:H[o]?=some (.cells [.ptr t 0,.str tm.owner,nx,.map ms,.int .i64 (tm.limit:Int),.int .i64 (tm.last:Int),.bool tm.closed])
 names:NmAt H nx tm.names
 map:H[ms]?=some (.map (sl.map entS) clk)
 sld:sl.map (·.1)=tm.sld
 nd:(o :: ms :: tokA nx).Nodup
def TmpAt (H:Hp) (o t:Nat) (tm:Tmp) (B:List Nat):Prop:=∃ ms clk nx sl,TmAt H o t ms clk nx sl tm∧B=o :: ms :: tokA nx
structure TmpOk (tm:Tmp):Prop where
 owner:tm.owner.length≤16
 limit:tm.limit≤9223372036854775807
 len:tm.names.length≤tm.last
 last:tm.last≤1000000
theorem TmAt.lt {H:Hp} {o t ms clk:Nat} {nx:AV} {sl:List (Txt × Nat)} {tm:Tmp} (h:TmAt H o t ms clk nx sl tm):∀ a ∈ o :: ms :: tokA nx,a < H.length:=by
 intro a ha
 rcases List.mem_cons.1 ha with e | ha
 ·subst e;exact lt_of_get h.cells
 rcases List.mem_cons.1 ha with e | ha
 ·subst e;exact lt_of_get h.map
 rcases h.names with ⟨e,_⟩ | ⟨t,e,e1,ht⟩
 ·rw [e] at ha;cases ha
 ·rw [e1] at ha
  rw [List.mem_singleton.1 ha];exact lt_of_get ht
theorem TmAt.frame {H H':Hp} {o t ms clk:Nat} {nx:AV} {sl:List (Txt × Nat)} {tm:Tmp} (h:TmAt H o t ms clk nx sl tm) (hf:∀ a ∈ o :: ms :: tokA nx,H'[a]?=H[a]?):TmAt H' o t ms clk nx sl tm :=
 ⟨(hf _ (by simp)).trans h.cells,h.names.frame fun a ha=>hf a (by simp [ha]),(hf _ (by simp)).trans h.map,h.sld,h.nd⟩
theorem TmpAt.lt {H:Hp} {o t:Nat} {tm:Tmp} {B:List Nat} (h:TmpAt H o t tm B):∀ a ∈ B,a < H.length:=by
 obtain ⟨ms,clk,nx,sl,h,rfl⟩:=h
 exact h.lt
theorem TmpAt.stp {H H':Hp} {o t:Nat} {tm:Tmp} {B S:List Nat} (h:TmpAt H o t tm B) (hs:Stp S H H') (hd:∀ a ∈ B,a ∉ S):TmpAt H' o t tm B:=by
 obtain ⟨ms,clk,nx,sl,h,rfl⟩:=h
 exact ⟨ms,clk,nx,sl,h.frame fun a ha=>hs.at' a (h.lt a ha) (hd a ha),rfl⟩
def SysAt (H:Hp) (o t:Nat) (tm:Tmp) (s:Sto) (A:List Nat):Prop:=∃ B S,TmpAt H o t tm B∧StoreAt H t s S∧(∀ a ∈ B,a ∉ S)∧A=B++S
structure SysRes (H H':Hp) (o t:Nat) (tm':Tmp) (s':Sto) (A A':List Nat):Prop where
 at':SysAt H' o t tm' s' A'
 stp:Stp A H H'
 own:∀ a ∈ A',a ∈ A ∨ H.length≤a
theorem SysAt.lt {H:Hp} {o t:Nat} {tm:Tmp} {s:Sto} {A:List Nat} (h:SysAt H o t tm s A):∀ a ∈ A,a < H.length:=by
 obtain ⟨B,S,h1,h2,h3,rfl⟩:=h
 intro a ha
 rcases List.mem_append.1 ha with k | k
 ·exact h1.lt a k
 ·exact h2.lt a k
theorem SysAt.stp {H H':Hp} {o t:Nat} {tm:Tmp} {s:Sto} {A C:List Nat} (h:SysAt H o t tm s A) (hs:Stp C H H') (hd:∀ a ∈ A,a ∉ C):SysAt H' o t tm s A:=by
 obtain ⟨B,S,h1,h2,h3,rfl⟩:=h
 exact ⟨B,S,h1.stp hs fun a ha=>hd a (by simp [ha]),h2.stp hs fun a ha=>hd a (by simp [ha]),h3,rfl⟩
theorem SysAt.self {H:Hp} {o t:Nat} {tm:Tmp} {s:Sto} {A:List Nat} (h:SysAt H o t tm s A):SysRes H H o t tm s A A:=⟨h,Stp.refl _ _,fun a ha=>.inl ha⟩
theorem SysAt.store {H H':Hp} {o t:Nat} {tm:Tmp} {s':Sto} {B S S':List Nat} (h1:TmpAt H o t tm B) (h3:∀ a ∈ B,a ∉ S) (hr:StoRes H H' t s' S S'):SysRes H H' o t tm s' (B++S) (B++S'):=by
 refine ⟨⟨B,S',h1.stp hr.stp h3,hr.at',fun a ha hs=>?_,rfl⟩,hr.stp.mono fun a ha=>by simp [ha],fun a ha=>?_⟩
 ·rcases hr.own a hs with k | k
  ·exact h3 a ha k
  ·have:=h1.lt a ha;omega
 ·rcases List.mem_append.1 ha with k | k
  ·exact .inl (by simp [k])
  ·rcases hr.own a k with k | k
   ·exact .inl (by simp [k])
   ·exact .inr k
theorem ldn {H:Hp} {o:Nat} {l:List AV} (h:H[o]?=some (.cells l)) (i:Nat) {v:AV} (hv:l[i]?=some v):aload false 1 (.ptr o i) H=some v:=by
 rw [aload_of h];exact hv
theorem stn {H:Hp} {o:Nat} {l:List AV} (h:H[o]?=some (.cells l)) (i:Nat) {v:AV} (hv:v.cells=[v]) (hk:v.known=true) (hi:i < l.length):astoreU 1 (.ptr o i) v H=some (.tuple [],H.set o (.cells (l.set i v))):=by
 have:=st h i hv hk hi
 rwa [Nat.zero_add] at this
theorem index_loop {x : AV} {l : List Txt} (hx : SS x l) (hl : l.length ≤ 1048576) (n : Txt) (H0 H : Hp) : ∀ (r d : List Txt), l = d ++ r →
    ∃ i:Int,slices_Index_of_string_string_L1 x (.str n) (.int .i64 (l.length:Int)) (.int .i64 (d.length:Int)) H0 H=some (.int .i64 i,H)∧(0≤i ↔ n ∈ r):=by
 intro r
 induction r with
 | nil =>
  intro d hd
  rw [List.append_nil] at hd
  subst hd
  have hlt:decide ((l.length:Int) < (l.length:Int))=false:=by simp
  refine ⟨-1,?_,by simp⟩
  rw [slices_Index_of_string_string_L1_eq]
  simp only [go_sem,hlt,slices_Index_of_string_string_J1_eq]
 | cons s r ih =>
  intro d hd
  have hlen:l.length=d.length+(r.length+1):=by rw [hd];simp
  have hlt:decide ((d.length:Int) < (l.length:Int))=true:=by simp;omega
  have hw1:IntKind.i64.wrap ((d.length:Int)+1)=((d.length+1:Nat):Int):=by rw [wrap64 (by omega) (by omega)];omega
  have his:l[d.length]?=some s:=by rw [hd,List.getElem?_append_right (Nat.le_refl _)];simp
  have hidx:=SS.idx hx his
  rw [slices_Index_of_string_string_L1_eq]
  simp only [go_sem,hlt,slices_Index_of_string_string_J2_eq,hidx,aload_vpc]
  by_cases he:n=s
  ·have hb:(n == s)=true:=by simpa using he
   simp only [hb,go_sem]
   exact ⟨_,rfl,by simp [he]⟩
  ·have hb:(n == s)=false:=by simpa using he
   obtain ⟨i,m1,m2⟩:=ih (d++[s]) (by rw [hd];simp)
   rw [List.length_append,List.length_singleton] at m1
   simp only [hb,go_sem,slices_Index_of_string_string_J3_eq,hw1]
   exact ⟨i,m1,by rw [m2];simp [he]⟩
theorem contains_flat {x:AV} {l:List Txt} (hx:SS x l) (hl:l.length≤1048576) (n:Txt) (H:Hp):flatC C_slices_Contains_of_string_string [x,.str n] H=some (.bool (decide (n ∈ l)),H):=by
 obtain ⟨x1,k1,k2⟩:=SS.closed hx [] 0 4
 obtain ⟨x2,g1,g2⟩:=SS.closed k2 [] 0 4
 refine flat2 k1 (b':=.str n) rfl (H1:=[]) ?_ rfl
 obtain ⟨i,m1,m2⟩:=index_loop g2 hl n [] [] l [] rfl
 have hi:flatC C_slices_Index_of_string_string [x1,.str n] []=some (.int .i64 i,[]):=by
  refine flat2 g1 (b':=.str n) rfl (H1:=[]) ?_ rfl
  rw [F_slices_Index_of_string_string_eq]
  unfold F_slices_Index_of_string_string
  simp only [go_sem,SS.len g2 9]
  exact m1
 rw [F_slices_Contains_of_string_string_eq]
 unfold F_slices_Contains_of_string_string
 simp only [hi,go_sem]
 congr 3
 rw [decide_eq_decide]
 exact m2
def tmFind (tm:Tmp) (n:Txt):Int:=if tm.closed then 8 else if n ∈ tm.names then 0 else 5
theorem find_run {H:Hp} {o t ms clk:Nat} {nx:AV} {sl:List (Txt × Nat)} {tm:Tmp} (h:TmAt H o t ms clk nx sl tm) (hk:TmpOk tm) (n:Txt):C_tempfile_Temps_find [.ptr o 0,.str n] H=some (.int .i64 (tmFind tm n),H):=by
 have l6:=ldn h.cells 6 (v:=.bool tm.closed) rfl
 have l2:=ldn h.cells 2 (v:=nx) rfl
 have hkl:=hk.len
 have hkt:=hk.last
 have hcon:=contains_flat h.names.ss (by omega) n H
 rw [F_tempfile_Temps_find_eq]
 unfold F_tempfile_Temps_find tmFind
 cases hc:tm.closed with
 | true =>
  rw [hc] at l6
  simp only [go_sem,Nat.zero_add,l6,if_true]
 | false =>
  rw [hc] at l6
  by_cases hn:n ∈ tm.names
  ·rw [decide_eq_true hn] at hcon
   simp only [go_sem,Nat.zero_add,l6,l2,hcon,Bool.not_true,tempfile_Temps_find_J1_eq,if_pos hn,Bool.false_eq_true,if_false]
  ·rw [decide_eq_false hn] at hcon
   simp only [go_sem,Nat.zero_add,l6,l2,hcon,Bool.not_false,if_neg hn,Bool.false_eq_true,if_false]
def ownS (o:Txt):Txt:=[46,116,109,112,46]++o++[46]
def tmpName (o:Txt) (n:Nat):Txt:=ownS o++Go.Lib.itoa (n:Int)
def tmNew (tm:Tmp) (s:Sto):(Txt × Int) × (Tmp × Sto) :=
 if tm.closed then (([],8),(tm,s)) else match s.create (tmpName tm.owner (tm.last+1)) with
 | (e,s')=>if e=0 then ((tmpName tm.owner (tm.last+1),0),({ tm with last:=tm.last+1,names:=tm.names++[tmpName tm.owner (tm.last+1)] },s')) else (([],e),(tm,s'))
theorem NmAt.app {H : Hp} {x : AV} {l : List Txt} (h : NmAt H x l) (n : Txt) (hl : l.length ≤ 1048576) :
    ∃ x' H',aappE 1 16 x (.vs 1 .clip [.str n]) H=some (x',H')∧NmAt H' x' (l++[n])∧Stp (tokA x) H H'∧(∀ a ∈ tokA x',a ∈ tokA x ∨ a=H.length)∧x'.cells=[x']∧x'.known=true∧(tokA x').Nodup:=by
 unfold aappE
 have he:Go.Am.elems 1 (.vs 1 .clip [.str n]) H=some [.str n]:=rfl
 rw [he]
 have hfit:fits ((l.map AV.str).length+[AV.str n].length) 16=true:=by simp [fits];omega
 have hone:fits [AV.str n].length 16=true:=rfl
 rcases h with ⟨rfl,rfl⟩ | ⟨t,e,rfl,ht⟩
 ·refine ⟨.vs 1 (.own H.length 1) [.str n],H++[.tok 1],?_,.inr ⟨H.length,1,rfl,by simp⟩,Stp.push _ _,fun a ha=>.inr (List.mem_singleton.1 ha),rfl,rfl,by simp [tokA]⟩
  simp only [aappend,hone,if_true]
  rw [if_neg (by simp)]
  rfl
 ·refine ⟨.vs 1 (.own t (e+1)) (l.map AV.str++[.str n]),H.set t (.tok (e+1)),?_,.inr ⟨t,e+1,by simp,get_set_eq _ ht⟩,Stp.set _ _ (by simp [tokA]),fun a ha=>.inl (by simpa [tokA] using ha),rfl,rfl,by simp [tokA]⟩
  simp only [aappend,hfit,and_self,if_true,ht]
  rw [if_neg (by simp)]
  rfl
theorem itoa_run (n:Nat) (hn:n≤9223372036854775807) (H:Hp):flatC C_num_Format [.int .i64 (n:Int)] H=some (.str (Go.Lib.itoa (n:Int)),H):=by
 refine flat1 (a':=.int .i64 (n:Int)) rfl (H1:=[]) ?_ rfl
 have:sumC itoaA [.int .i64 (n:Int)] []=some (.str (Go.Lib.itoa (n:Int)),[]):=by
  unfold sumC itoaA
  dsimp only
  rw [if_pos (by omega)]
 rw [F_num_Format_eq]
 unfold F_num_Format
 simp only [this,go_sem]
theorem prefix_run (o:Txt) (ho:o.length≤1048576) (H:Hp):flatC C_tempfile_prefix [.str o] H=some (.str (ownS o),H):=by
 refine flat1 (a':=.str o) rfl (H1:=[]) ?_ rfl
 rw [F_tempfile_prefix_eq]
 unfold F_tempfile_prefix
 rw [sbin_add (by simp;omega)]
 simp only [go_sem]
 rw [sbin_add (by simp;omega)]
 rfl
end Go.Am
namespace Go.Am
set_option linter.unusedSimpArgs false
set_option linter.unusedVariables false
set_option linter.unusedSectionVars false
set_option maxRecDepth 100000

abbrev tmC (t ms:Nat) (nx:AV) (tm:Tmp):List AV:=[.ptr t 0,.str tm.owner,nx,.map ms,.int .i64 (tm.limit:Int),.int .i64 (tm.last:Int),.bool tm.closed]
theorem name_le (o:Txt) (n:Nat) (ho:o.length≤16) (hn:n≤1000001):(tmpName o n).length≤1048576∧(ownS o).length+(Go.Lib.itoa (n:Int)).length≤1048576:=by
 have:=Go.Lib.itoa_length_le (n:Int) (by omega) (by omega)
 have h2:(ownS o).length=o.length+6:=by simp [ownS]
 refine ⟨?_,by omega⟩
 unfold tmpName
 rw [List.length_append]
 omega
theorem TNew_run {H : Hp} {o t : Nat} {tm : Tmp} {s : Sto} {A : List Nat} (h : SysAt H o t tm s A) (hm : TmpOk tm) (hk : StoOk s) (hl : tm.last < 1000000) :
    ∃ H' A',C_tempfile_Temps_New [.ptr o 0] H=some (.tuple [.str (tmNew tm s).1.1,.int .i64 (tmNew tm s).1.2],H')∧SysRes H H' o t (tmNew tm s).2.1 (tmNew tm s).2.2 A A':=by
 have hsys:=h
 obtain ⟨B,S,h1,h2,h3,rfl⟩:=h
 have hB:=h1
 obtain ⟨ms,clk,nx,sl,h1,rfl⟩:=h1
 have l6:=ldn h1.cells 6 (v:=.bool tm.closed) rfl
 have l0:=ldn h1.cells 0 (v:=.ptr t 0) rfl
 have l1:=ldn h1.cells 1 (v:=.str tm.owner) rfl
 have l5:=ldn h1.cells 5 (v:=.int .i64 (tm.last:Int)) rfl
 have ho:=hm.owner
 have hw:IntKind.i64.wrap ((tm.last:Int)+1)=((tm.last+1:Nat):Int):=by rw [wrap64 (by omega) (by omega)];omega
 obtain ⟨n1,n2⟩:=name_le tm.owner (tm.last+1) ho (by omega)
 have hpre:=prefix_run tm.owner (by omega) H
 have hit:=itoa_run (tm.last+1) (by omega) H
 have hadd:sbin .add (.str (ownS tm.owner)) (.str (Go.Lib.itoa ((tm.last+1:Nat):Int)))=some (.str (tmpName tm.owner (tm.last+1))):=by rw [sbin_add (by omega)];rfl
 have hnil:ebin (.pointer 68) .eql (.ptr t 0) .nilp=some (.bool false):=rfl
 obtain ⟨H1,S1,p1,p2⟩:=Create_run h2 hk (tmpName tm.owner (tm.last+1)) n1
 rw [F_tempfile_Temps_New_eq]
 unfold F_tempfile_Temps_New tmNew
 cases hc:tm.closed with
 | true =>
  rw [hc] at l6
  rw [if_pos rfl]
  exact ⟨H,_,by simp only [go_sem,Nat.zero_add,tempfile_Temps_New_J1_eq,l6],hsys.self⟩
 | false =>
  rw [hc] at l6
  rw [if_neg (by simp)]
  cases hcr:s.create (tmpName tm.owner (tm.last+1)) with
  | mk e s' =>
  rw [hcr] at p1 p2
  simp only at p1 p2 ⊢
  by_cases he:e=0
  ·subst he
   rw [if_pos rfl]
   have hne:((0:Int) != 0)=false:=rfl
   have hT:=h1.frame (H':=H1) fun a ha=>p2.stp.at' a (h1.lt a ha) (h3 a ha)
   have k5:=ldn hT.cells 5 (v:=.int .i64 (tm.last:Int)) rfl
   have s5:=stn hT.cells 5 (v:=.int .i64 ((tm.last+1:Nat):Int)) rfl rfl (by simp)
   have g1:=get_set_eq (AObj.cells (List.set (tmC t ms nx tm) 5 (.int .i64 ((tm.last+1:Nat):Int)))) hT.cells
   have k2:=ldn g1 2 (v:=nx) rfl
   have hnd:=h1.nd
   rw [List.nodup_cons,List.nodup_cons] at hnd
   obtain ⟨d1,d2,d3⟩:=hnd
   have hot:∀ a ∈ tokA nx,a ≠ o:=fun a ha e=>d1 (by rw [← e];simp [ha])
   have hmt:∀ a ∈ tokA nx,a ≠ ms:=fun a ha e=>d2 (by rw [← e];exact ha)
   have hom:o ≠ ms:=fun e=>d1 (by rw [e];simp)
   generalize hH2:H1.set o (.cells (List.set (tmC t ms nx tm) 5 (.int .i64 ((tm.last+1:Nat):Int))))=H2 at s5 g1 k2
   have hlen2:H2.length=H1.length:=by rw [← hH2];simp
   have hN2:NmAt H2 nx tm.names:=hT.names.frame fun a ha=>by rw [← hH2];exact List.getElem?_set_ne (fun e=>hot a ha e.symm)
   have hkl:=hm.len
   obtain ⟨x',H3,q1,q2,q3,q4,q5,q6,q7⟩:=hN2.app (tmpName tm.owner (tm.last+1)) (by omega)
   have g2:H3[o]?=some (.cells (List.set (tmC t ms nx tm) 5 (.int .i64 ((tm.last+1:Nat):Int)))):=q3.get g1 fun ha=>hot o ha rfl
   have s2:=stn g2 2 (v:=x') q5 q6 (by simp)
   generalize hH4:H3.set o (.cells (List.set (List.set (tmC t ms nx tm) 5 (.int .i64 ((tm.last+1:Nat):Int))) 2 x'))=H4 at s2
   have holt:o < H1.length:=lt_of_get hT.cells
   have hmlt:ms < H1.length:=lt_of_get hT.map
   have hx':∀ a ∈ tokA x',a ≠ o∧a ≠ ms:=fun a ha=>by
    rcases q4 a ha with k | k
    ·exact ⟨hot a k,hmt a k⟩
    ·omega
   have hS2:Stp (o :: ms :: tokA nx) H1 H4:=by
    have e1:Stp (o :: ms :: tokA nx) H1 H2:=by rw [← hH2];exact Stp.set _ _ (by simp)
    have e3:Stp (o :: ms :: tokA nx) H3 H4:=by rw [← hH4];exact Stp.set _ _ (by simp)
    exact (e1.trans (q3.mono (B:=o :: ms :: tokA nx) fun a ha=>by simp [ha]) (fun _ h=>h) fun _ h=>.inl h).trans e3 (fun _ h=>h) fun _ h=>.inl h
   refine ⟨H4,(o :: ms :: tokA x')++S1,?_,⟨⟨o :: ms :: tokA x',S1,⟨ms,clk,x',sl,⟨?_,?_,?_,h1.sld,?_⟩,rfl⟩,?_,?_,rfl⟩,?_,?_⟩⟩
   ·simp only [go_sem,Nat.zero_add,tempfile_Temps_New_J1_eq,l6,l0,hnil,tempfile_Temps_New_J2_eq,l1,hpre,l5,hw,hit,hadd,p1,hne,tempfile_Temps_New_J3_eq,k5,s5,k2,one_str,q1,s2]
   ·rw [← hH4]
    refine (get_set_eq _ g2).trans ?_
    simp only [tmC,hc]
    rfl
   ·exact q2.frame fun a ha=>by rw [← hH4];exact List.getElem?_set_ne (fun e=>(hx' a ha).1 e.symm)
   ·rw [← hH4,List.getElem?_set_ne hom,q3.at' ms (by rw [hlen2];exact hmlt) (fun ha=>hmt ms ha rfl),← hH2,List.getElem?_set_ne hom]
    exact hT.map
   ·rw [List.nodup_cons,List.nodup_cons]
    refine ⟨fun ha=>?_,fun ha=>(hx' ms ha).2 rfl,q7⟩
    rcases List.mem_cons.1 ha with e | ha
    ·exact hom e
    ·exact (hx' o ha).1 rfl
   ·refine p2.at'.stp hS2 fun a ha hb=>?_
    rcases p2.own a ha with k | k
    ·exact h3 a hb k
    ·have:=h1.lt a hb;omega
   ·intro a ha hs
    have hold:a ∈ o :: ms :: tokA nx→False:=fun k=>by
     rcases p2.own a hs with j | j
     ·exact h3 a k j
     ·have:=h1.lt a k;omega
    rcases List.mem_cons.1 ha with e | ha
    ·exact hold (by rw [e];simp)
    rcases List.mem_cons.1 ha with e | ha
    ·exact hold (by rw [e];simp)
    rcases q4 a ha with k | k
    ·exact hold (by simp [k])
    ·have:=p2.at'.lt a hs;omega
   ·refine (p2.stp.mono (B:=(o :: ms :: tokA nx)++S) fun a ha=>by simp [ha]).trans hS2 (fun _ h=>h) fun a ha=>.inl (List.mem_append_left _ ha)
   ·intro a ha
    rcases List.mem_append.1 ha with ha | ha
    ·rcases List.mem_cons.1 ha with e | ha
     ·exact .inl (by rw [e];simp)
     rcases List.mem_cons.1 ha with e | ha
     ·exact .inl (by rw [e];simp)
     rcases q4 a ha with k | k
     ·exact .inl (by simp [k])
     ·exact .inr (by have:=p2.stp.len;omega)
    ·rcases p2.own a ha with k | k
     ·exact .inl (by simp [k])
     ·exact .inr k
  ·rw [if_neg he]
   have hne:(e != 0)=true:=by simpa using he
   exact ⟨H1,_,by simp only [go_sem,Nat.zero_add,tempfile_Temps_New_J1_eq,l6,l0,hnil,tempfile_Temps_New_J2_eq,l1,hpre,l5,hw,hit,hadd,p1,hne],SysAt.store hB h3 p2⟩
def addS (l:List Txt) (n:Txt):List Txt:=if n ∈ l then l else l++[n]
def tmSeal (tm:Tmp) (s:Sto) (n:Txt):Int × (Tmp × Sto) :=
 if tmFind tm n ≠ 0 then (tmFind tm n,(tm,s)) else if (s.sync n).1 ≠ 0 then ((s.sync n).1,(tm,(s.sync n).2)) else (0,({ tm with sld:=addS tm.sld n },(s.sync n).2))
theorem findK_sl:∀ (sl:List (Txt × Nat)) (n:Txt) (i:Nat),(n ∉ sl.map (·.1)∧findK (.str n) (sl.map entS) i=some none) ∨ ∃ a p b,sl=a++p :: b∧p.1=n∧n ∈ sl.map (·.1)∧findK (.str n) (sl.map entS) i=some (some (i+a.length,.bool true)):=by
 intro sl n
 induction sl with
 | nil=>intro i;exact .inl ⟨by simp,rfl⟩
 | cons p sl ih =>
  intro i
  have hks:keySame (.str n) (entS p).1=some (n == p.1):=rfl
  by_cases he:n=p.1
  ·refine .inr ⟨[],p,sl,rfl,he.symm,by simp [he],?_⟩
   rw [List.map_cons,findK,hks,show (n == p.1)=true by simpa using he]
   rfl
  ·have hstep : findK (.str n) ((p :: sl).map entS) i = findK (.str n) (sl.map entS) (i + 1) := by
      rw [List.map_cons,findK,hks,show (n == p.1)=false by simpa using he]
   rw [hstep]
   rcases ih (i+1) with ⟨h1,h2⟩ | ⟨a,q,b,h1,h2,h3,h4⟩
   ·exact .inl ⟨by simp [he] at h1 ⊢;exact h1,h2⟩
   ·refine .inr ⟨p :: a,q,b,by rw [h1];rfl,h2,by rw [List.map_cons];exact List.mem_cons_of_mem _ h3,?_⟩
    rw [h4]
    simp only [List.length_cons]
    congr 3
    omega
theorem set_self {α:Type} (a:List α) (d:α) (b:List α):(a++d :: b).set a.length d=a++d :: b:=by
 induction a with
 | nil=>rfl
 | cons x a ih=>simp only [List.cons_append,List.length_cons,List.set_cons_succ,ih]
theorem seal_set {H : Hp} {ms clk : Nat} {sl : List (Txt × Nat)} (h : H[ms]? = some (.map (sl.map entS) clk)) (n : Txt) :
    ∃ (sl':List (Txt × Nat)) (clk':Nat),amapSet .string (.map ms) (.str n) (.bool true) H=some (.tuple [],H.set ms (.map (sl'.map entS) clk'))∧sl'.map (·.1)=addS (sl.map (·.1)) n:=by
 have hkk:keyOk .string (.str n)=true:=rfl
 unfold amapSet
 dsimp only
 rw [h]
 dsimp only
 rw [if_pos hkk]
 rcases findK_sl sl n 0 with ⟨h1,h2⟩ | ⟨a,p,b,h1,h2,h3,h4⟩
 ·refine ⟨sl++[(n,clk)],clk+1,?_,?_⟩
  ·rw [h2];simp [entS]
  ·unfold addS;rw [if_neg h1];simp
 ·refine ⟨sl,clk,?_,?_⟩
  ·rw [h4]
   dsimp only
   have e1:(sl.map entS).getD (0+a.length) (.undef,.undef,0)=entS p:=by rw [h1,List.getD_eq_getElem?_getD,List.map_append,List.map_cons,List.getElem?_append_right (by simp)];simp
   have e2:(sl.map entS).set (0+a.length) (.str n,.bool true,(entS p).2.2)=sl.map entS:=by
    have:((.str n,.bool true,(entS p).2.2):AV × AV × Nat)=entS p:=by rw [← h2];rfl
    rw [this,h1,Nat.zero_add,List.map_append,List.map_cons,show a.length=(a.map entS).length by simp,set_self]
   rw [e1,e2]
  ·unfold addS;rw [if_pos h3]
theorem Seal_run {H : Hp} {o t : Nat} {tm : Tmp} {s : Sto} {A : List Nat} (h : SysAt H o t tm s A) (hm : TmpOk tm) (hk : StoOk s) (n : Txt) :
    ∃ H' A',C_tempfile_Temps_Seal [.ptr o 0,.str n] H=some (.int .i64 (tmSeal tm s n).1,H')∧SysRes H H' o t (tmSeal tm s n).2.1 (tmSeal tm s n).2.2 A A':=by
 have hsys:=h
 obtain ⟨B,S,h1,h2,h3,rfl⟩:=h
 have hB:=h1
 obtain ⟨ms,clk,nx,sl,h1,rfl⟩:=h1
 have hf:=find_run h1 hm n
 have l0:=ldn h1.cells 0 (v:=.ptr t 0) rfl
 obtain ⟨H1,S1,p1,p2⟩:=Sync_run h2 hk.count n
 rw [F_tempfile_Temps_Seal_eq]
 unfold F_tempfile_Temps_Seal tmSeal
 by_cases hf0:tmFind tm n=0
 ·have e0:(tmFind tm n != 0)=false:=by rw [hf0];rfl
  rw [if_neg (by simp [hf0])]
  by_cases hs0:(s.sync n).1=0
  ·have e1:((s.sync n).1 != 0)=false:=by rw [hs0];rfl
   rw [if_neg (by simp [hs0])]
   have hT:=h1.frame (H':=H1) fun a ha=>p2.stp.at' a (h1.lt a ha) (h3 a ha)
   have k3:=ldn hT.cells 3 (v:=.map ms) rfl
   obtain ⟨sl',clk',q1,q2⟩:=seal_set hT.map n
   have hnd:=h1.nd
   rw [List.nodup_cons,List.nodup_cons] at hnd
   obtain ⟨d1,d2,d3⟩:=hnd
   have hom:o ≠ ms:=fun e=>d1 (by rw [e];simp)
   have hmt:∀ a ∈ tokA nx,a ≠ ms:=fun a ha e=>d2 (by rw [← e];exact ha)
   have hS2:Stp (o :: ms :: tokA nx) H1 (H1.set ms (.map (sl'.map entS) clk')):=Stp.set _ _ (by simp)
   refine ⟨H1.set ms (.map (sl'.map entS) clk'),(o :: ms :: tokA nx)++S1,?_,⟨⟨o :: ms :: tokA nx,S1,⟨ms,clk',nx,sl',⟨?_,?_,?_,?_,h1.nd⟩,rfl⟩,?_,?_,rfl⟩,?_,?_⟩⟩
   ·simp only [hf,go_sem,e0,Nat.zero_add,tempfile_Temps_Seal_J1_eq,l0,p1,e1,tempfile_Temps_Seal_J2_eq,k3,q1]
   ·rw [List.getElem?_set_ne hom.symm];exact hT.cells
   ·exact hT.names.frame fun a ha=>List.getElem?_set_ne (fun e=>hmt a ha e.symm)
   ·exact get_set_eq _ hT.map
   ·rw [q2,h1.sld]
   ·refine p2.at'.stp hS2 fun a ha hb=>?_
    rcases p2.own a ha with k | k
    ·exact h3 a hb k
    ·have:=h1.lt a hb;omega
   ·intro a ha hs
    rcases p2.own a hs with j | j
    ·exact h3 a ha j
    ·have:=h1.lt a ha;omega
   ·refine (p2.stp.mono (B:=(o :: ms :: tokA nx)++S) fun a ha=>by simp [ha]).trans hS2 (fun _ h=>h) fun a ha=>.inl (List.mem_append_left _ ha)
   ·intro a ha
    rcases List.mem_append.1 ha with ha | ha
    ·exact .inl (List.mem_append_left _ ha)
    ·rcases p2.own a ha with k | k
     ·exact .inl (by simp [k])
     ·exact .inr k
  ·have e1:((s.sync n).1 != 0)=true:=by simpa using hs0
   rw [if_pos hs0]
   exact ⟨H1,_,by simp only [hf,go_sem,e0,Nat.zero_add,tempfile_Temps_Seal_J1_eq,l0,p1,e1],SysAt.store hB h3 p2⟩
 ·have e0:(tmFind tm n != 0)=true:=by simpa using hf0
  rw [if_pos hf0]
  exact ⟨H,_,by simp only [hf,go_sem,e0],hsys.self⟩
end Go.Am
namespace Go.Am
set_option linter.unusedSimpArgs false
set_option linter.unusedVariables false
set_option linter.unusedSectionVars false
set_option maxRecDepth 100000

def usedN (nm:List Txt):List Fil→Nat
 | []=>0
 | f :: r=>(if f.name ∈ nm then f.text.length else 0)+usedN nm r
theorem usedN_le (nm:List Txt) (l:List Fil):usedN nm l≤usedL l:=by
 induction l with
 | nil=>exact Nat.le_refl _
 | cons f l ih=>simp only [usedN,usedL];split <;> omega
theorem usedN_app (nm:List Txt) (a b:List Fil):usedN nm (a++b)=usedN nm a+usedN nm b:=by
 induction a with
 | nil=>simp [usedN]
 | cons f a ih=>simp only [List.cons_append,usedN,ih];omega
theorem usedN_perm (nm:List Txt) {a b:List Fil} (h:a.Perm b):usedN nm a=usedN nm b:=by
 induction h with
 | nil=>rfl
 | cons x _ ih=>simp only [usedN,ih]
 | swap x y l=>simp only [usedN];omega
 | trans _ _ ih1 ih2=>rw [ih1,ih2]
theorem getF_self {l:List Fil} (h:(l.map Fil.name).Nodup):(l.map Fil.name).filterMap (getF l)=l:=by
 have key:∀ (r l:List Fil),(l.map Fil.name).Nodup→(∀ f ∈ r,f ∈ l)→(r.map Fil.name).filterMap (getF l)=r:=by
  intro r l hl
  have hg:∀ f ∈ l,getF l f.name=some f:=by
   clear r
   induction l with
   | nil=>intro f hf;cases hf
   | cons g l ih =>
    intro f hf
    rw [List.map_cons,List.nodup_cons] at hl
    unfold getF
    rcases List.mem_cons.1 hf with e | hf
    ·rw [e,if_pos rfl]
    ·have hne:¬ f.name=g.name:=fun e=>hl.1 (by rw [← e];exact List.mem_map.2 ⟨f,hf,rfl⟩)
     rw [if_neg hne]
     exact ih hl.2 f hf
  induction r with
  | nil=>intro _;rfl
  | cons f r ih =>
   intro h
   rw [List.map_cons,List.filterMap_cons,hg f (h f (by simp)),ih fun g hg=>h g (by simp [hg])]
 exact key l l h fun _ h=>h
theorem listF_perm {l:List Fil} (h:(l.map Fil.name).Nodup):(listF l).Perm l:=by
 unfold listF
 have:=(sortK_perm (l.map Fil.name)).filterMap (getF l)
 rwa [getF_self h] at this
def tmUsed (tm:Tmp) (s:Sto):Nat:=usedN tm.names s.files
theorem load_fil (x:Fil) (H:Hp):aload true 3 (.vp (filAV x).cells) H=some (filAV x):=rfl
theorem bytes_loop {H0 : Hp} {o t ms clk : Nat} {nx : AV} {sl : List (Txt × Nat)} {tm : Tmp} (h : TmAt H0 o t ms clk nx sl tm) (hm : TmpOk tm) {x : AV} {fs : List Fil} (hx : Sl 3 x (fs.map filAV)) (hl : fs.length ≤ 64) (hu : usedL fs ≤ 262144) (HB : Hp) : ∀ (r d : List Fil) (H : Hp), fs = d ++ r → Keep H0.length H0 H → H0.length ≤ H.length →
    ∃ H',tempfile_owned_bytes_L1 (.ptr o 0) (.int .i64 (usedN tm.names d:Int)) x (.int .i64 (fs.length:Int)) (.int .i64 (d.length:Int)) HB H=some (.int .i64 (usedN tm.names fs:Int),H')∧Keep H0.length H0 H'∧H0.length≤H'.length:=by
 have hkl:=hm.len
 have hkt:=hm.last
 intro r
 induction r with
 | nil =>
  intro d H hd hK hlen
  rw [List.append_nil] at hd
  subst hd
  have hlt:decide ((fs.length:Int) < (fs.length:Int))=false:=by simp
  rw [tempfile_owned_bytes_L1_eq]
  simp only [go_sem,hlt,tempfile_owned_bytes_J1_eq]
  exact ⟨_,rfl,hK,hlen⟩
 | cons f r ih =>
  intro d H hd hK hlen
  have hlen2:fs.length=d.length+(r.length+1):=by rw [hd];simp
  have hlt:decide ((d.length:Int) < (fs.length:Int))=true:=by simp;omega
  have hw1:IntKind.i64.wrap ((d.length:Int)+1)=((d.length+1:Nat):Int):=by rw [wrap64 (by omega) (by omega)];omega
  have hif:fs[d.length]?=some f:=by rw [hd,List.getElem?_append_right (Nat.le_refl _)];simp
  have hidx:aindexS 3 x (.int .i64 (d.length:Int))=some (.vp (filAV f).cells):=Sl.idx hx (c:=filAV f) (by simp [hif])
  have hat:TmAt H o t ms clk nx sl tm:=h.frame fun a ha=>hK a (h.lt a ha)
  have holt:=lt_of_get hat.cells
  have hb1:(H++[AObj.cells [.str [],.int .i64 0,.int .i64 0]])[H.length]?=some (.cells [.str [],.int .i64 0,.int .i64 0]):=by simp
  have hst:astoreU 3 (.ptr H.length 0) (filAV f) (H++[AObj.cells [.str [],.int .i64 0,.int .i64 0]])=some (.tuple [],H++[AObj.cells (filAV f).cells]):=by
   rw [astore_of (v:=filAV f) (sz:=3) hb1 rfl rfl (by simp)]
   simp [splice,filAV,AV.cells]
  have g1:(H++[AObj.cells (filAV f).cells])[H.length]?=some (.cells (filAV f).cells):=by simp
  have hat2:TmAt (H++[AObj.cells (filAV f).cells]) o t ms clk nx sl tm:=hat.frame fun a ha=>List.getElem?_append_left (hat.lt a ha)
  have l2:=ldn hat2.cells 2 (v:=nx) rfl
  have m0:=ldn g1 0 (v:=.str f.name) rfl
  have m1:=ldn g1 1 (v:=.int .i64 (f.text.length:Int)) rfl
  have hcon:=contains_flat hat2.names.ss (by omega) f.name (H++[AObj.cells (filAV f).cells])
  have hK2:Keep H0.length H0 (H++[AObj.cells (filAV f).cells]):=hK.trans (Keep.push H hlen _)
  have hsum:usedN tm.names (d++[f])=usedN tm.names d+(if f.name ∈ tm.names then f.text.length else 0):=by rw [usedN_app];simp [usedN]
  have hle:=usedN_le tm.names (d++[f])
  have hul:usedL (d++[f])≤usedL fs:=by
   rw [hd,usedL_app,usedL_app]
   simp only [usedL];omega
  obtain ⟨H',p1,p2,p3⟩:=ih (d++[f]) (H++[AObj.cells (filAV f).cells]) (by rw [hd];simp) hK2 (by simp;omega)
  rw [List.length_append,List.length_singleton] at p1
  refine ⟨H',?_,p2,p3⟩
  rw [tempfile_owned_bytes_L1_eq]
  simp only [go_sem,hlt,tempfile_owned_bytes_J2_eq,hidx,load_fil,hst,Nat.zero_add,l2,m0,hcon]
  by_cases hn:f.name ∈ tm.names
  ·rw [if_pos hn] at hsum
   have hwa:IntKind.i64.wrap ((usedN tm.names d:Int)+(f.text.length:Int))=(usedN tm.names (d++[f]):Int):=by rw [wrap64 (by omega) (by omega)];omega
   have c1:(filAV f).cells[1]?=some (.int .i64 (f.text.length:Int)):=rfl
   simp only [decide_eq_true hn,go_sem,Nat.zero_add,m1,c1,hwa,tempfile_owned_bytes_J3_eq,hw1]
   exact p1
  ·rw [if_neg hn,Nat.add_zero] at hsum
   rw [hsum] at p1
   simp only [decide_eq_false hn,go_sem,tempfile_owned_bytes_J3_eq,hw1]
   exact p1
theorem bytes_ro {H : Hp} {o t ms clk : Nat} {nx : AV} {sl : List (Txt × Nat)} {tm : Tmp} {s : Sto} {S : List Nat} (h : TmAt H o t ms clk nx sl tm) (hS : StoreAt H t s S) (hm : TmpOk tm) (hk : StoOk s) :
    roC C_tempfile_owned_bytes [.ptr o 0] H=some (.int .i64 (tmUsed tm s:Int),H):=by
 obtain ⟨x,q1,q2⟩:=List_ro hS hk
 have l0:=ldn h.cells 0 (v:=.ptr t 0) rfl
 have hp:=listF_perm hk.nd
 have hlen:(listF s.files).length≤64:=by rw [hp.length_eq];exact hk.len
 have hul:usedL (listF s.files)≤262144:=by
  have h1:∀ {a b:List Fil},a.Perm b→usedL a=usedL b:=fun {a b} h=>by
   induction h with
   | nil=>rfl
   | cons x _ ih=>simp only [usedL,ih]
   | swap x y l=>simp only [usedL];omega
   | trans _ _ ih1 ih2=>rw [ih1,ih2]
  rw [h1 hp]
  have:=hk.used
  have:=hk.limit
  omega
 have hal:alenD (.slice 57) x=some (.int .i64 ((listF s.files).length:Int)):=by
  have:=Sl.len q2 142
  rwa [List.length_map] at this
 obtain ⟨H',p1,p2,p3⟩:=bytes_loop h hm q2 hlen hul H _ [] H rfl (Keep.refl _ _) (Nat.le_refl _)
 have hrun:C_tempfile_owned_bytes [.ptr o 0] H=some (.int .i64 (usedN tm.names (listF s.files):Int),H'):=by
  rw [F_tempfile_owned_bytes_eq]
  unfold F_tempfile_owned_bytes
  simp only [go_sem,Nat.zero_add,l0,q1,hal]
  exact p1
 have:=roC_of hrun p2 p3 (v':=.int .i64 (usedN tm.names (listF s.files):Int)) rfl
 rwa [usedN_perm tm.names hp] at this
theorem Used_ro {H : Hp} {o t : Nat} {tm : Tmp} {s : Sto} {A : List Nat} (h : SysAt H o t tm s A) (hm : TmpOk tm) (hk : StoOk s) :
    roC C_tempfile_Temps_Used [.ptr o 0] H=some (.int .i64 (if tm.closed then 0 else (tmUsed tm s:Int)),H):=by
 obtain ⟨B,S,⟨ms,clk,nx,sl,h1,rfl⟩,h2,h3,rfl⟩:=h
 have l6:=ldn h1.cells 6 (v:=.bool tm.closed) rfl
 have l0:=ldn h1.cells 0 (v:=.ptr t 0) rfl
 have hnil:ebin (.pointer 68) .eql (.ptr t 0) .nilp=some (.bool false):=rfl
 refine roC_of (H1:=H) (v:=.int .i64 (if tm.closed then 0 else (tmUsed tm s:Int))) ?_ (Keep.refl _ _) (Nat.le_refl _) rfl
 rw [F_tempfile_Temps_Used_eq]
 unfold F_tempfile_Temps_Used
 cases hc:tm.closed with
 | true =>
  rw [hc] at l6
  simp only [go_sem,Nat.zero_add,l6,if_true]
 | false =>
  rw [hc] at l6
  simp only [go_sem,Nat.zero_add,l6,l0,hnil,tempfile_Temps_Used_J1_eq,bytes_ro h1 h2 hm hk,Bool.false_eq_true,if_false]
def tmWrite (tm:Tmp) (s:Sto) (n:Txt) (l:List Txt):Int × Sto :=
 if tmFind tm n ≠ 0 then (tmFind tm n,s) else if n ∈ tm.sld then (8,s) else if fitsR l=false then (3,s) else
  if (tm.limit:Int) - (tmUsed tm s:Int) < (costR l:Int) then (11,s) else s.append n (encS l)
theorem sealed_look {H:Hp} {ms clk:Nat} {sl:List (Txt × Nat)} (h:H[ms]?=some (.map (sl.map entS) clk)) (n:Txt):alookup .string (.bool false) false (.map ms) (.str n) H=some (.bool (decide (n ∈ sl.map (·.1)))):=by
 have he:entries (.map ms) H=some (sl.map entS):=by unfold entries;dsimp only;rw [h]
 have hkk:keyOk .string (.str n)=true:=rfl
 unfold alookup
 rw [if_pos hkk,he]
 dsimp only
 rcases findK_sl sl n 0 with ⟨h1,h2⟩ | ⟨a,p,b,h1,h2,h3,h4⟩
 ·rw [h2,decide_eq_false h1];rfl
 ·rw [h4,decide_eq_true h3];rfl
theorem Write_run {H : Hp} {o t : Nat} {tm : Tmp} {s : Sto} {A : List Nat} (h : SysAt H o t tm s A) (hm : TmpOk tm) (hk : StoOk s) (n : Txt) {x : AV} {l : List Txt} (hx : SS x l) (hL : ∀ s ∈ l, s.length ≤ 1048576) (hl : costR l ≤ 1048576) :
    ∃ H' A',C_tempfile_Temps_Write [.ptr o 0,.str n,x] H=some (.int .i64 (tmWrite tm s n l).1,H')∧SysRes H H' o t tm (tmWrite tm s n l).2 A A':=by
 have hsys:=h
 obtain ⟨B,S,h1,h2,h3,rfl⟩:=h
 have hB:=h1
 obtain ⟨ms,clk,nx,sl,h1,rfl⟩:=h1
 have hf:=find_run h1 hm n
 have l0:=ldn h1.cells 0 (v:=.ptr t 0) rfl
 have l3:=ldn h1.cells 3 (v:=.map ms) rfl
 have l4:=ldn h1.cells 4 (v:=.int .i64 (tm.limit:Int)) rfl
 have hsl:=sealed_look h1.map n
 rw [h1.sld] at hsl
 have henc:=enc_flat hx hL (by omega) H
 have hby:=bytes_ro h1 h2 hm hk
 have hul:tmUsed tm s≤262144:=by
  have:=usedN_le tm.names s.files
  have:=hk.used
  have:=hk.limit
  unfold tmUsed;omega
 have hlim:=hm.limit
 have hw:IntKind.i64.wrap ((tm.limit:Int) - (tmUsed tm s:Int))=(tm.limit:Int) - (tmUsed tm s:Int):=wrap64 (by omega) (by omega)
 rw [F_tempfile_Temps_Write_eq]
 unfold F_tempfile_Temps_Write tmWrite
 by_cases hf0:tmFind tm n=0
 ·have e0:(tmFind tm n != 0)=false:=by rw [hf0];rfl
  rw [if_neg (by simp [hf0])]
  by_cases hsd:n ∈ tm.sld
  ·rw [if_pos hsd]
   rw [decide_eq_true hsd] at hsl
   exact ⟨H,_,by simp only [hf,go_sem,e0,Nat.zero_add,tempfile_Temps_Write_J1_eq,l3,hsl],hsys.self⟩
  ·rw [if_neg hsd]
   rw [decide_eq_false hsd] at hsl
   cases hft:fitsR l with
   | false =>
    have e3:((3:Int) != 0)=true:=rfl
    rw [hft,if_neg (by simp)] at henc
    rw [if_pos rfl]
    exact ⟨H,_,by simp only [hf,go_sem,e0,Nat.zero_add,tempfile_Temps_Write_J1_eq,l3,hsl,tempfile_Temps_Write_J2_eq,henc,List.getElem?_cons_zero,List.getElem?_cons_succ,e3],hsys.self⟩
   | true =>
    have ez:((0:Int) != 0)=false:=rfl
    rw [hft,if_pos rfl] at henc
    rw [if_neg (by simp)]
    by_cases hb:(tm.limit:Int) - (tmUsed tm s:Int) < (costR l:Int)
    ·rw [if_pos hb]
     have e4:decide ((tm.limit:Int) - (tmUsed tm s:Int) < ((encS l).length:Int))=true:=by rw [encS_len];exact decide_eq_true hb
     exact ⟨H,_,by simp only [hf,go_sem,e0,Nat.zero_add,tempfile_Temps_Write_J1_eq,l3,hsl,tempfile_Temps_Write_J2_eq,henc,List.getElem?_cons_zero,List.getElem?_cons_succ,ez,tempfile_Temps_Write_J3_eq,l4,hby,hw,e4],hsys.self⟩
    ·rw [if_neg hb]
     have e4:decide ((tm.limit:Int) - (tmUsed tm s:Int) < ((encS l).length:Int))=false:=by rw [encS_len];exact decide_eq_false hb
     obtain ⟨H1,S1,p1,p2⟩:=Append_run h2 hk n (encS l) (by rw [encS_len];omega)
     exact ⟨H1,_,by simp only [hf,go_sem,e0,Nat.zero_add,tempfile_Temps_Write_J1_eq,l3,hsl,tempfile_Temps_Write_J2_eq,henc,List.getElem?_cons_zero,List.getElem?_cons_succ,ez,tempfile_Temps_Write_J3_eq,l4,hby,hw,e4,tempfile_Temps_Write_J4_eq,l0,p1],SysAt.store hB h3 p2⟩
 ·have e0:(tmFind tm n != 0)=true:=by simpa using hf0
  rw [if_pos hf0]
  exact ⟨H,_,by simp only [hf,go_sem,e0],hsys.self⟩
end Go.Am
namespace Go.Am
set_option linter.unusedSimpArgs false
set_option linter.unusedVariables false
set_option linter.unusedSectionVars false
set_option maxRecDepth 100000

theorem tick_still {s:Sto} (h1:s.crashed=false) (h2:s.count=0):s.tick=s:=by
 unfold Sto.tick
 rw [if_neg (by simp [h1]),if_neg (by omega)]
 cases s
 simp only at h2
 subst h2
 rfl
theorem SysAt.same {H H':Hp} {o t:Nat} {tm:Tmp} {s':Sto} {B S:List Nat} (h1:TmpAt H o t tm B) (h3:∀ a ∈ B,a ∉ S) (hr:StoRes H H' t s' S S):SysAt H' o t tm s' (B++S) :=
 ⟨B,S,h1.stp hr.stp h3,hr.at',h3,rfl⟩
section
variable {H:Hp} {o t:Nat} {tm:Tmp} {s:Sto} {A:List Nat} (h:SysAt H o t tm s A) (hm:TmpOk tm) (hk:StoOk s) (n:Txt)
include h hm hk
theorem TRead_err (hf:tmFind tm n ≠ 0) (i:Int):C_tempfile_Temps_Read [.ptr o 0,.str n,.int .i64 i] H=some (.tuple [.str [],.int .i64 0,.int .i64 (tmFind tm n)],H):=by
 obtain ⟨B,S,⟨ms,clk,nx,sl,h1,rfl⟩,h2,h3,rfl⟩:=h
 have hfr:=find_run h1 hm n
 have e0:(tmFind tm n != 0)=true:=by simpa using hf
 rw [F_tempfile_Temps_Read_eq]
 unfold F_tempfile_Temps_Read
 simp only [hfr,go_sem,e0]
theorem TRead_run (hf : tmFind tm n = 0) (hc : s.tick.crashed = false) {f : Fil} (hg : getF s.files n = some f) {p : Txt} {rest : List Txt} (ht : f.text = p ++ encS rest) (hfit : fitsR rest = true) (hlen : f.text.length ≤ 262144) :
    ∃ H', C_tempfile_Temps_Read [.ptr o 0, .str n, .int .i64 (p.length : Int)] H = some (match rest with
        | []=>.tuple [.str [],.int .i64 0,.int .i64 5]
        | l :: _=>.tuple [.str l,.int .i64 ((p++recS l).length:Int),.int .i64 0],H')∧SysAt H' o t tm s.tick A∧Stp A H H':=by
 obtain ⟨B,S,h1,h2,h3,rfl⟩:=h
 have hB:=h1
 obtain ⟨ms,clk,nx,sl,h1,rfl⟩:=h1
 have hfr:=find_run h1 hm n
 have l0:=ldn h1.cells 0 (v:=.ptr t 0) rfl
 have e0:(tmFind tm n != 0)=false:=by rw [hf];rfl
 have ez:((0:Int) != 0)=false:=rfl
 have hpl:p.length≤f.text.length:=by rw [ht];simp
 obtain ⟨H1,p1,p2⟩:=Read_run h2 hk n (p.length:Int) 4102 (by omega)
 have hrd:s.read n (p.length:Int) 4102=((encS rest).take 4102,0):=by
  unfold Sto.read
  rw [if_neg (by simp [hc]),hg]
  dsimp only
  rw [if_neg (by omega),Int.toNat_natCast,ht,List.drop_append_of_le_length (Nat.le_refl _),List.drop_length]
  rfl
 rw [hrd] at p1
 refine ⟨H1,?_,SysAt.same hB h3 p2,p2.stp.mono fun a ha=>by simp [ha]⟩
 rw [F_tempfile_Temps_Read_eq]
 unfold F_tempfile_Temps_Read
 cases rest with
 | nil =>
  have hem:((encS ([]:List Txt)).take 4102 == ([]:Txt))=true:=rfl
  simp only [hfr,go_sem,e0,Nat.zero_add,tempfile_Temps_Read_J1_eq,l0,p1,List.getElem?_cons_zero,List.getElem?_cons_succ,ez,tempfile_Temps_Read_J2_eq,hem]
 | cons l r =>
  have hl:l.length≤4096:=by
   simp only [fitsR,List.all_cons,Bool.and_eq_true,decide_eq_true_eq] at hfit
   exact hfit.1
  have htk:(encS (l :: r)).take 4102=recS l++(encS r).take (4102 - (recS l).length):=by
   show (recS l++encS r).take 4102=_
   rw [List.take_append,List.take_of_length_le (by rw [recS_len];omega)]
  have hem:((encS (l :: r)).take 4102 == ([]:Txt))=false:=by
   rw [htk]
   have:(recS l).length ≠ 0:=by rw [recS_len];omega
   cases hr:recS l with
   | nil=>rw [hr] at this;simp at this
   | cons a b=>rfl
  have hnx:=next_flat l ((encS r).take (4102 - (recS l).length)) hl (by
   rw [List.length_take]
   omega) H1
  rw [← htk] at hnx
  have hel:(encS (l :: r)).length≤262144:=by
   have:=congrArg List.length ht
   rw [List.length_append] at this
   omega
  have hrl:(recS l).length=l.length+6:=recS_len l
  have hw:IntKind.i64.wrap ((p.length:Int)+((l.length+6:Nat):Int))=((p++recS l).length:Int):=by
   rw [List.length_append,hrl,wrap64 (by omega) (by omega)];omega
  simp only [hfr,go_sem,e0,Nat.zero_add,tempfile_Temps_Read_J1_eq,l0,p1,List.getElem?_cons_zero,List.getElem?_cons_succ,ez,tempfile_Temps_Read_J2_eq,hem,tempfile_Temps_Read_J3_eq,hnx,tempfile_Temps_Read_J4_eq,hw]
end
end Go.Am
namespace Go.Am
set_option linter.unusedSimpArgs false
set_option linter.unusedVariables false
set_option linter.unusedSectionVars false
set_option maxRecDepth 100000

theorem cloneF_vs (t : Tok) (l : List AV) (H : Hp) : cloneF [.vs 1 t l] H = (match strsL l with
    | some _=>if l=[] then some (.vs 1 .no [],H) else if l.length≤1099511627776 then some (.ws false 1 H.length 0 l.length,H++[.row 0 l]) else none
    | none=>none):=rfl
theorem dropF_ws (o e n q : Nat) (H : Hp) : dropF [.ws false 1 o e n, .fn (.func 88) [] [.ptr q 0]] H = (match H[o]? with
    | some (.row e' l)=>match strsL l with
     | some ls=>match H[q]? with
      | some (.cells [.str nm])=>if e'=e∧n=l.length∧o ≠ q∧l.length≤1099511627776 then some (.vs 1 (.own o (e+2)) ((keptL nm ls).map AV.str),H.set o (.tok (e+2))) else none
      | _=>none
     | none=>none
    | _=>none):=rfl
theorem forget_run2 {H : Hp} {o t ms clk : Nat} {nx : AV} {sl : List (Txt × Nat)} {tm : Tmp} (h : TmAt H o t ms clk nx sl tm) (hm : TmpOk tm) (n : Txt) (hne : tm.names ≠ []) :
    ∃ (H':Hp) (nx':AV) (sl':List (Txt × Nat)),forgetE.run [.ptr o 0,.str n] H=some (.tuple [],H')∧TmAt H' o t ms clk nx' sl' { tm with names:=keptL n tm.names,sld:=sl'.map (·.1) }∧Stp (o :: ms :: tokA nx) H H'∧(∀ a ∈ tokA nx',H.length≤a)∧(∀ m,m ≠ n→(m ∈ sl'.map (·.1) ↔ m ∈ tm.sld)):=by
 have hlt:=h.lt
 have hol:o < H.length:=hlt o (by simp)
 have hml:ms < H.length:=hlt ms (by simp)
 have hom:o ≠ ms:=fun e=>by have:=h.nd;simp [e] at this
 have hkl:=hm.len
 have hkt:=hm.last
 obtain ⟨u,e,rfl,hu⟩:∃ u e,nx=.vs 1 (.own u e) (tm.names.map AV.str)∧H[u]?=some (.tok e):=by
  rcases h.names with ⟨_,e⟩ | h
  ·exact absurd e hne
  ·exact h
 have hne2:tm.names.map AV.str ≠ []:=fun e=>hne (List.map_eq_nil_iff.1 e)
 have hc1:(H++[AObj.cells [.str n]])[o]?=some (.cells [.ptr t 0,.str tm.owner,.vs 1 (.own u e) (tm.names.map AV.str),.map ms,.int .i64 (tm.limit:Int),.int .i64 (tm.last:Int),.bool tm.closed]):=get_push h.cells _
 have l2:=ldn hc1 2 (v:=.vs 1 (.own u e) (tm.names.map AV.str)) rfl
 have hl1:(H++[AObj.cells [.str n]]).length=H.length+1:=by simp
 have hcl:cloneE.run [.vs 1 (.own u e) (tm.names.map AV.str)] (H++[AObj.cells [.str n]])=some (.ws false 1 (H.length+1) 0 tm.names.length,H++[AObj.cells [.str n]]++[AObj.row 0 (tm.names.map AV.str)]):=by
  rw [show cloneE.run=cloneF from rfl]
  rw [cloneF_vs,strsL_self]
  dsimp only
  rw [if_neg hne2,List.length_map,if_pos (by omega),hl1]
 have hr:(H++[AObj.cells [.str n]]++[AObj.row 0 (tm.names.map AV.str)])[H.length+1]?=some (.row 0 (tm.names.map AV.str)):=by
  rw [List.getElem?_append_right (by simp)];simp
 have hq:(H++[AObj.cells [.str n]]++[AObj.row 0 (tm.names.map AV.str)])[H.length]?=some (.cells [.str n]):=by
  rw [List.getElem?_append_left (by simp)];simp
 have hdl : delE.run [.ws false 1 (H.length + 1) 0 tm.names.length, .fn (.func 88) [] [.ptr H.length 0]] (H ++ [AObj.cells [.str n]] ++ [AObj.row 0 (tm.names.map AV.str)]) =
     some (.vs 1 (.own (H.length+1) 2) ((keptL n tm.names).map AV.str),(H++[AObj.cells [.str n]]++[AObj.row 0 (tm.names.map AV.str)]).set (H.length+1) (AObj.tok 2)):=by
  rw [show delE.run=dropF from rfl]
  rw [dropF_ws,hr]
  dsimp only
  rw [strsL_self,hq]
  dsimp only
  rw [if_pos ⟨rfl,by rw [List.length_map],by omega,by rw [List.length_map];omega⟩]
 have hS1:Stp [] H ((H++[AObj.cells [.str n]]++[AObj.row 0 (tm.names.map AV.str)]).set (H.length+1) (AObj.tok 2)):=⟨by simp,fun i hi _=>by
  rw [List.getElem?_set_ne (by omega),List.getElem?_append_left (by simp;omega),List.getElem?_append_left hi]⟩
 have hq3:((H++[AObj.cells [.str n]]++[AObj.row 0 (tm.names.map AV.str)]).set (H.length+1) (AObj.tok 2))[H.length]?=some (.cells [.str n]):=get_set_ne _ (by omega) hq
 have ht3:((H++[AObj.cells [.str n]]++[AObj.row 0 (tm.names.map AV.str)]).set (H.length+1) (AObj.tok 2))[H.length+1]?=some (.tok 2):=get_set_eq _ hr
 generalize hH3:(H++[AObj.cells [.str n]]++[AObj.row 0 (tm.names.map AV.str)]).set (H.length+1) (.tok 2)=H3 at hdl hS1 hq3 ht3
 have hc3:=hS1.get h.cells (by simp)
 have hm3:H3[ms]?=some (.map (sl.map entS) clk):=(hS1.at' ms hml (by simp)).trans h.map
 have s2:=stn hc3 2 (v:=.vs 1 (.own (H.length+1) 2) ((keptL n tm.names).map AV.str)) rfl rfl (by simp)
 have hc4:=get_set_eq (AObj.cells (List.set [.ptr t 0,.str tm.owner,.vs 1 (.own u e) (tm.names.map AV.str),.map ms,.int .i64 (tm.limit:Int),.int .i64 (tm.last:Int),.bool tm.closed] 2 (.vs 1 (.own (H.length+1) 2) ((keptL n tm.names).map AV.str)))) hc3
 have hm4:=get_set_ne (AObj.cells (List.set [.ptr t 0,.str tm.owner,.vs 1 (.own u e) (tm.names.map AV.str),.map ms,.int .i64 (tm.limit:Int),.int .i64 (tm.last:Int),.bool tm.closed] 2 (.vs 1 (.own (H.length+1) 2) ((keptL n tm.names).map AV.str)))) hom hm3
 have hq4:=get_set_ne (AObj.cells (List.set [.ptr t 0,.str tm.owner,.vs 1 (.own u e) (tm.names.map AV.str),.map ms,.int .i64 (tm.limit:Int),.int .i64 (tm.last:Int),.bool tm.closed] 2 (.vs 1 (.own (H.length+1) 2) ((keptL n tm.names).map AV.str)))) (show o ≠ H.length by omega) hq3
 have ht4:=get_set_ne (AObj.cells (List.set [.ptr t 0,.str tm.owner,.vs 1 (.own u e) (tm.names.map AV.str),.map ms,.int .i64 (tm.limit:Int),.int .i64 (tm.last:Int),.bool tm.closed] 2 (.vs 1 (.own (H.length+1) 2) ((keptL n tm.names).map AV.str)))) (show o ≠ H.length+1 by omega) ht3
 have hS4:Stp [o] H3 (H3.set o (.cells (List.set [.ptr t 0,.str tm.owner,.vs 1 (.own u e) (tm.names.map AV.str),.map ms,.int .i64 (tm.limit:Int),.int .i64 (tm.last:Int),.bool tm.closed] 2 (.vs 1 (.own (H.length+1) 2) ((keptL n tm.names).map AV.str))))):=Stp.set _ _ (by simp)
 generalize hH4:H3.set o (.cells (List.set [.ptr t 0,.str tm.owner,.vs 1 (.own u e) (tm.names.map AV.str),.map ms,.int .i64 (tm.limit:Int),.int .i64 (tm.last:Int),.bool tm.closed] 2 (.vs 1 (.own (H.length+1) 2) ((keptL n tm.names).map AV.str))))=H4 at s2 hc4 hm4 hq4 ht4 hS4
 have l3:=ldn hc4 3 (v:=.map ms) rfl
 have lq:=ldn hq4 0 (v:=.str n) rfl
 obtain ⟨H5,sl',d1,d2,d3,d4⟩:∃ (H5:Hp) (sl':List (Txt × Nat)),amapDel .string (.map ms) (.str n) H4=some (.tuple [],H5)∧H5[ms]?=some (.map (sl'.map entS) clk)∧Stp [ms] H4 H5∧(∀ m,m ≠ n→(m ∈ sl'.map (·.1) ↔ m ∈ sl.map (·.1))):=by
  have hkk:keyOk .string (.str n)=true:=rfl
  unfold amapDel
  dsimp only
  rw [hm4]
  dsimp only
  rw [if_pos hkk]
  rcases findK_sl sl n 0 with ⟨_,hf⟩ | ⟨a,p,b,rfl,hpn,_,hf⟩
  ·rw [hf]
   exact ⟨_,sl,rfl,get_set_eq _ hm4,Stp.set _ _ (by simp),fun _ _=>Iff.rfl⟩
  ·rw [hf]
   dsimp only
   refine ⟨_,a++b,rfl,?_,Stp.set _ _ (by simp),fun m hm=>by simp [hpn,hm]⟩
   rw [get_set_eq _ hm4,Nat.zero_add,List.map_append,List.map_cons,show a.length=(a.map entS).length by simp,eraseIdx_mid,List.map_append]
 have hS5:Stp (o :: ms :: tokA (.vs 1 (.own u e) (tm.names.map AV.str))) H H5:=by
  have x1:Stp (o :: ms :: tokA (.vs 1 (.own u e) (tm.names.map AV.str))) H H3:=hS1.mono fun a ha=>by cases ha
  have x2:=x1.trans hS4 (fun _ h=>h) fun a ha=>.inl (by rw [List.mem_singleton.1 ha];simp)
  exact x2.trans d3 (fun _ h=>h) fun a ha=>.inl (by rw [List.mem_singleton.1 ha];simp)
 refine ⟨H5,.vs 1 (.own (H.length+1) 2) ((keptL n tm.names).map AV.str),sl',?_,⟨d3.get hc4 (by simpa using hom),.inr ⟨_,_,rfl,(d3.at' _ (lt_of_get ht4) (by simp;omega)).trans ht4⟩,d2,rfl,?_⟩,hS5,fun a ha=>?_,fun m hm=>by rw [d4 m hm,h.sld]⟩
 ·rw [forgetE_eq]
  unfold Fg.F_tempfile_owned_forget
  have hbx:abox (.str n) H=some (.ptr H.length 0,H++[.cells [.str n]]):=abox_of rfl
  have l2':aload false 1 (.ptr o 2) (H++[AObj.cells [AV.str n]])=some (.vs 1 (.own u e) (tm.names.map AV.str)):=l2
  simp only [hbx,go_sem,Nat.zero_add,l2',hcl,hdl,s2,l3,lq,d1]
 ·have:H.length+1 ≠ o∧H.length+1 ≠ ms:=by omega
  simp [tokA,hom,Ne.symm this.1,Ne.symm this.2]
 ·simp [tokA] at ha;omega
theorem forget_run {H : Hp} {o t ms clk : Nat} {nx : AV} {sl : List (Txt × Nat)} {tm : Tmp} (h : TmAt H o t ms clk nx sl tm) (hm : TmpOk tm) (n : Txt) (hne : tm.names ≠ []) :
    ∃ (H':Hp) (nx':AV) (sl':List (Txt × Nat)),forgetE.run [.ptr o 0,.str n] H=some (.tuple [],H')∧TmAt H' o t ms clk nx' sl' { tm with names:=keptL n tm.names,sld:=sl'.map (·.1) }∧Stp (o :: ms :: tokA nx) H H'∧(∀ a ∈ tokA nx',H.length≤a):=by
 obtain ⟨H',nx',sl',h1,h2,h3,h4,_⟩:=forget_run2 h hm n hne
 exact ⟨H',nx',sl',h1,h2,h3,h4⟩
theorem rmF_ne {l:List Fil} {n m:Txt} (h:m ≠ n):getF (rmF l n) m=getF l m:=by
 induction l with
 | nil=>rfl
 | cons f l ih =>
  rw [rmF]
  split
  ·rename_i he
   rw [getF,if_neg (by rw [← he];exact h)]
  ·rw [getF,getF,ih]
theorem rmF_sub (l:List Fil) (n:Txt):List.Sublist (rmF l n) l:=by
 induction l with
 | nil=>exact List.Sublist.refl _
 | cons f l ih =>
  rw [rmF]
  split
  ·exact List.sublist_cons_self _ _
  ·exact ih.cons_cons _
theorem rmF_used (l:List Fil) (n:Txt):usedL (rmF l n)≤usedL l:=by
 induction l with
 | nil=>exact Nat.le_refl _
 | cons f l ih =>
  rw [rmF]
  split
  ·simp only [usedL];omega
  ·simp only [usedL];omega
theorem rm_ok {s:Sto} (hk:StoOk s) (n:Txt):StoOk { s with files:=rmF s.files n }:=by
 have hs:=rmF_sub s.files n
 have hu:=rmF_used s.files n
 have h1:=hk.used
 have h2:=hk.len
 exact ⟨hk.limit,by show usedL (rmF s.files n)≤s.limit;omega,hk.peak,fun f hf=>hk.name f (hs.subset hf),hk.nd.sublist (hs.map _),fun f hf=>hk.syn f (hs.subset hf),by have:=hs.length_le;show (rmF s.files n).length≤64;omega,hk.count⟩
theorem keptL_head {n:Txt} {ns:List Txt} (h:(n :: ns).Nodup):keptL n (n :: ns)=ns:=by
 unfold keptL
 rw [List.filter_cons_of_neg (by simp)]
 rw [List.filter_eq_self]
 intro m hm
 have:m ≠ n:=fun e=>(List.nodup_cons.1 h).1 (e ▸ hm)
 simp [this]
theorem close_loop {o t : Nat} (H0 : Hp) : ∀ (k : Nat) (tm : Tmp) (s : Sto) (A : List Nat) (H : Hp), tm.names.length = k → SysAt H o t tm s A → TmpOk tm → StoOk s → s.crashed = false → s.count = 0 → tm.names.Nodup → (∀ n ∈ tm.names, getF s.files n ≠ none) → tm.closed = false →
    ∃ H' A' tm' s',tempfile_Temps_Close_L1 (.ptr o 0) H0 H=some (.int .i64 0,H')∧SysRes H H' o t tm' s' A A'∧TmpOk tm'∧StoOk s'∧tm'.closed=true∧s'.crashed=false∧s'.count=0∧s'={ s with files:=tm.names.foldl rmF s.files }:=by
 intro k
 induction k with
 | zero =>
  intro tm s A H hn h hm hk hc h0 hnd hf hcl
  have hn0:tm.names=[]:=List.length_eq_zero_iff.1 hn
  have h':=h
  obtain ⟨B,S,⟨ms,clk,nx,sl,h1,rfl⟩,h2,h3,rfl⟩:=h
  have l2:=ldn h1.cells 2 (v:=nx) rfl
  have hln:=SS.len h1.names.ss 9
  have hlt:decide ((0:Int) < (tm.names.length:Int))=false:=by rw [hn0];rfl
  have s6:=stn h1.cells 6 (v:=.bool true) rfl rfl (by simp)
  have g6:=get_set_eq (AObj.cells (List.set [.ptr t 0,.str tm.owner,nx,.map ms,.int .i64 (tm.limit:Int),.int .i64 (tm.last:Int),.bool tm.closed] 6 (.bool true))) h1.cells
  have hS:Stp [o] H (H.set o (.cells (List.set [.ptr t 0,.str tm.owner,nx,.map ms,.int .i64 (tm.limit:Int),.int .i64 (tm.last:Int),.bool tm.closed] 6 (.bool true)))):=Stp.set _ _ (by simp)
  generalize hH1:H.set o (.cells (List.set [.ptr t 0,.str tm.owner,nx,.map ms,.int .i64 (tm.limit:Int),.int .i64 (tm.last:Int),.bool tm.closed] 6 (.bool true)))=H1 at s6 g6 hS
  have hnd':=h1.nd
  have hon:∀ a ∈ ms :: tokA nx,a ∉ [o]:=fun a ha hx=>by
   rw [List.mem_singleton.1 hx] at ha
   exact (List.nodup_cons.1 hnd').1 ha
  have hlt1:=h1.lt
  have hoS:o ∉ S:=h3 o (by simp)
  refine ⟨H1,(o :: ms :: tokA nx)++S,{ tm with closed:=true },s,?_,⟨⟨o :: ms :: tokA nx,S,⟨ms,clk,nx,sl,⟨g6,h1.names.frame fun a ha=>hS.at' a (hlt1 a (by simp [ha])) (hon a (by simp [ha])),(hS.at' ms (hlt1 ms (by simp)) (hon ms (by simp))).trans h1.map,h1.sld,h1.nd⟩,rfl⟩,h2.stp hS (fun a ha hx=>hoS (by rw [List.mem_singleton.1 hx] at ha;exact ha)),h3,rfl⟩,hS.mono fun a ha=>by rw [List.mem_singleton.1 ha];simp,fun a ha=>.inl ha⟩,⟨hm.owner,hm.limit,hm.len,hm.last⟩,hk,rfl,hc,h0,by rw [hn0];rfl⟩
  rw [tempfile_Temps_Close_L1_eq]
  simp only [go_sem,Nat.zero_add,l2,hln,hlt,tempfile_Temps_Close_J3_eq,s6]
 | succ k ih =>
  intro tm s A H hn h hm hk hc h0 hnd hf hcl
  obtain ⟨n,ns,hnn⟩:∃ n ns,tm.names=n :: ns:=by
   cases hx:tm.names with
   | nil=>rw [hx] at hn;cases hn
   | cons n ns=>exact ⟨n,ns,rfl⟩
  have hsys:=h
  obtain ⟨B,S,⟨ms,clk,nx,sl,h1,rfl⟩,h2,h3,rfl⟩:=h
  have l2:=ldn h1.cells 2 (v:=nx) rfl
  have l0:=ldn h1.cells 0 (v:=.ptr t 0) rfl
  have hln:=SS.len h1.names.ss 9
  have hi0:=SS.idx h1.names.ss (i:=0) (s:=n) (by rw [hnn];rfl)
  have hlt:decide ((0:Int) < (tm.names.length:Int))=true:=by rw [hn];simp
  have hgn:getF s.files n ≠ none:=hf n (by rw [hnn];simp)
  obtain ⟨f,hgf⟩:=Option.ne_none_iff_exists'.1 hgn
  have hrem:s.remove n=(0,{ s with files:=rmF s.files n }):=by
   unfold Sto.remove
   rw [tick_still hc h0,if_neg (by simp [hc]),hgf]
  obtain ⟨H1,S1,r1,r2⟩:=Remove_run h2 hk n
  rw [hrem] at r1 r2
  have hr1:=SysAt.store (o:=o) (tm:=tm) ⟨ms,clk,nx,sl,h1,rfl⟩ h3 r2
  have h1':TmAt H1 o t ms clk nx sl tm:=h1.frame fun a ha=>r2.stp.at' a (h1.lt a ha) (h3 a ha)
  obtain ⟨H2,nx2,sl2,q1,q2,q3,q4⟩:=forget_run h1' hm n (by rw [hnn];simp)
  have hkn:keptL n tm.names=ns:=by rw [hnn] at hnd ⊢;exact keptL_head hnd
  rw [hkn] at q2
  have hS1lt:=r2.at'.lt
  have hd1:∀ a ∈ o :: ms :: tokA nx,a ∉ S1:=fun a ha hs=>by
   rcases r2.own a hs with k1 | k1
   ·exact h3 a ha k1
   ·have:=h1.lt a ha;omega
  have hsto2:StoreAt H2 t { s with files:=rmF s.files n } S1:=r2.at'.stp q3 fun a ha hx=>hd1 a hx ha
  have hlo:=q3.len
  have hd2:∀ a ∈ o :: ms :: tokA nx2,a ∉ S1:=fun a ha hs=>by
   rcases List.mem_cons.1 ha with e | ha
   ·exact hd1 a (by simp [e]) hs
   rcases List.mem_cons.1 ha with e | ha
   ·exact hd1 a (by simp [e]) hs
   ·have:=q4 a ha
    have:=hS1lt a hs
    omega
  have hsys2:SysAt H2 o t { tm with names:=ns,sld:=sl2.map (·.1) } { s with files:=rmF s.files n } ((o :: ms :: tokA nx2)++S1):=⟨_,S1,⟨ms,clk,nx2,sl2,q2,rfl⟩,hsto2,hd2,rfl⟩
  have hlen:=hm.len
  have hnl:ns.length=k:=by rw [hnn] at hn;simpa using hn
  have hm2:TmpOk { tm with names:=ns,sld:=sl2.map (·.1) }:=⟨hm.owner,hm.limit,by show ns.length≤tm.last;omega,hm.last⟩
  have hnd2:ns.Nodup:=by rw [hnn] at hnd;exact (List.nodup_cons.1 hnd).2
  obtain ⟨H3,A3,tm3,s3,m1,m2,m3,m4,m5,m6,m7,m8⟩:=ih { tm with names:=ns,sld:=sl2.map (·.1) } { s with files:=rmF s.files n } _ H2 hnl hsys2 hm2 (rm_ok hk n) hc h0 hnd2 (fun m hmm=>by
   have hne:m ≠ n:=fun e=>by rw [hnn] at hnd;exact (List.nodup_cons.1 hnd).1 (e ▸ hmm)
   show getF (rmF s.files n) m ≠ none
   rw [rmF_ne hne]
   exact hf m (by rw [hnn];simp [hmm])) hcl
  have hl1:=r2.stp.len
  have hown2:∀ a ∈ (o :: ms :: tokA nx2)++S1,a ∈ (o :: ms :: tokA nx)++S ∨ H.length≤a:=fun a ha=>by
   rcases List.mem_append.1 ha with k1 | k1
   ·rcases List.mem_cons.1 k1 with e | k1
    ·exact .inl (by simp [e])
    rcases List.mem_cons.1 k1 with e | k1
    ·exact .inl (by simp [e])
    ·have:=q4 a k1;exact .inr (by omega)
   ·rcases r2.own a k1 with k2 | k2
    ·exact .inl (by simp [k2])
    ·exact .inr k2
  have hS2:Stp ((o :: ms :: tokA nx)++S) H H2:=hr1.stp.trans q3 (fun _ h=>h) fun a ha=>.inl (List.mem_append_left _ ha)
  have e0:((0:Int) != 0)=false:=rfl
  refine ⟨H3,A3,tm3,s3,?_,⟨m2.at',hS2.trans m2.stp (fun _ h=>h) hown2,fun a ha=>?_⟩,m3,m4,m5,m6,m7,by rw [m8,hnn];rfl⟩
  ·have hi0':aindexS 1 nx (.int .i64 0)=some (.vp [.str n]):=hi0
   rw [tempfile_Temps_Close_L1_eq]
   simp only [go_sem,Nat.zero_add,l2,hln,hlt,tempfile_Temps_Close_J4_eq,hi0',aload_vpc,l0,r1,e0,tempfile_Temps_Close_J5_eq,q1]
   exact m1
  ·rcases m2.own a ha with k1 | k1
   ·exact hown2 a k1
   ·have:=hS2.len;exact .inr (by omega)
theorem Close_run {o t : Nat} {tm : Tmp} {s : Sto} {A : List Nat} {H : Hp} (h : SysAt H o t tm s A) (hm : TmpOk tm) (hk : StoOk s) (hc : s.crashed = false) (h0 : s.count = 0) (hnd : tm.names.Nodup) (hf : ∀ n ∈ tm.names, getF s.files n ≠ none) (hcl : tm.closed = false) :
    ∃ H' A' tm' s',C_tempfile_Temps_Close [.ptr o 0] H=some (.int .i64 0,H')∧SysRes H H' o t tm' s' A A'∧TmpOk tm'∧StoOk s'∧tm'.closed=true∧s'.crashed=false∧s'.count=0∧s'={ s with files:=tm.names.foldl rmF s.files }:=by
 obtain ⟨H',A',tm',s',m⟩:=close_loop (o:=o) (t:=t) H tm.names.length tm s A H rfl h hm hk hc h0 hnd hf hcl
 refine ⟨H',A',tm',s',?_,m.2⟩
 obtain ⟨B,S,⟨ms,clk,nx,sl,h1,rfl⟩,h2,h3,rfl⟩:=h
 have hnil:ebin (.pointer 77) .eql (.ptr o 0) .nilp=some (.bool false):=rfl
 have l6:=ldn h1.cells 6 (v:=.bool false) (by rw [hcl];rfl)
 rw [F_tempfile_Temps_Close_eq]
 unfold F_tempfile_Temps_Close
 simp only [hnil,go_sem,tempfile_Temps_Close_J1_eq,Nat.zero_add,l6,tempfile_Temps_Close_J2_eq]
 exact m.1
end Go.Am
namespace Go.Am
set_option linter.unusedSimpArgs false
set_option linter.unusedVariables false
set_option linter.unusedSectionVars false
set_option maxRecDepth 100000
def validS (s:List UInt8):Bool :=
 match s with
 | []=>false
 | b :: _=>decide (s.length≤16) && !digit b.toNat && s.all fun c=>inName c.toNat
theorem valid_J2_eq (x0 x7 x8 x9 : AV) (H0 H : Hp) : tempfile_valid_J2 x0 x7 x8 x9 H0 H =
    bnd (aindexStr x0 x8) fun t13_9 =>
    bnd (nameD t13_9 x8) fun t45_36 =>
    cnd t45_36 (some ((.bool false),H)) (tempfile_valid_J3 x0 x7 x8 H0 H):=by
 rw [tempfile_valid_J2_eq];simp only [nameD,bnd_assoc,bnd_some]
theorem valid_J1 (s:List UInt8) (hs:s.length≤4611686018427387904) (H0 H:Hp):tempfile_valid_J1 (.str s) H0 H=some (.bool (!s.isEmpty && decide (s.length≤16)),H):=by
 rw [tempfile_valid_J1_eq]
 cases s with
 | nil=>simp [go_sem,sbin,strbin]
 | cons b l =>
  simp only [sbin,strbin,go_sem,alenD]
  have:(!((b :: l) == ([]:List UInt8)))=true:=rfl
  have c:decide (((b :: l).length:Int)≤16)=decide ((b :: l).length≤16):=by rw [Bool.eq_iff_iff];simp;omega
  simp only [this,go_sem,c,List.isEmpty_cons,Bool.not_false,Bool.true_and]
theorem valid_loop (s : List UInt8) (hs : s.length ≤ 4611686018427387904) (H0 H : Hp) : ∀ (k i : Nat), s.length - i = k → 0 < i → i ≤ s.length →
    tempfile_valid_L1 (.str s) (.int .i64 s.length) (.int .i64 i) H0 H=some (.bool (((s.drop i).all fun c=>inName c.toNat) && (!s.isEmpty && decide (s.length≤16))),H):=by
 intro k
 induction k with
 | zero =>
  intro i hk h0 hi
  rw [tempfile_valid_L1_eq]
  have hlt:decide ((i:Int) < (s.length:Int))=false:=by simp;omega
  have hd:s.drop i=[]:=List.drop_eq_nil_iff.2 (by omega)
  simp only [go_sem,hlt,valid_J1 s hs,hd,List.all_nil,Bool.true_and]
 | succ k ih =>
  intro i hk h0 hi
  rw [tempfile_valid_L1_eq]
  have hl:i < s.length:=by omega
  have hlt:decide ((i:Int) < (s.length:Int))=true:=by simp;omega
  have hw:IntKind.i64.wrap ((i:Int)+1)=((i+1:Nat):Int):=by rw [wrap64 (by omega) (by omega)];omega
  have h0':((i:Int) == 0)=false:=by simp;omega
  simp only [go_sem,hlt,valid_J2_eq,aindexStr_of (List.getElem?_eq_getElem hl),nameD_next _ h0']
  rw [List.drop_eq_getElem_cons hl,List.all_cons]
  cases hb:inName s[i].toNat with
  | false=>simp only [go_sem,Bool.not_false,Bool.false_and]
  | true =>
   simp only [go_sem,Bool.not_true,Bool.true_and,tempfile_valid_J3_eq,hw]
   exact ih (i+1) (by omega) (by omega) (by omega)
theorem valid_spec (s:List UInt8) (hs:s.length≤4611686018427387904) (H:Hp):C_tempfile_valid [.str s] H=some (.bool (validS s),H):=by
 rw [F_tempfile_valid_eq]
 unfold F_tempfile_valid
 simp only [go_sem,alenD]
 cases s with
 | nil=>rw [tempfile_valid_L1_eq];simp [go_sem,valid_J1 [] (by simp),validS]
 | cons b l =>
  rw [tempfile_valid_L1_eq]
  have hlt:decide ((0:Int) < ((b :: l).length:Int))=true:=by simp
  have hw:IntKind.i64.wrap ((0:Int)+1)=((0+1:Nat):Int):=by decide
  have hidx:aindexStr (.str (b :: l)) (.int .i64 0)=some (.int .u8 b.toNat):=by simp [aindexStr]
  simp only [go_sem,hlt,valid_J2_eq,hidx,nameD_first]
  cases hb:(!inName b.toNat || digit b.toNat) with
  | true =>
   have:validS (b :: l)=false:=by
    unfold validS
    simp only [Bool.or_eq_true,Bool.not_eq_true'] at hb
    rcases hb with hb | hb <;> simp [hb]
   simp only [go_sem,this]
  | false =>
   simp only [Bool.or_eq_false_iff,Bool.not_eq_false'] at hb
   simp only [go_sem,tempfile_valid_J3_eq,hw]
   rw [valid_loop (b :: l) hs H H l.length 1 (by simp) (by omega) (by simp)]
   have:validS (b :: l)=(((b :: l).drop 1).all (fun c=>inName c.toNat) && (!(b :: l).isEmpty && decide ((b :: l).length≤16))):=by
    unfold validS
    simp only [hb.1,hb.2,List.all_cons,List.drop_one,List.tail_cons,List.isEmpty_cons,Bool.not_false,Bool.true_and,Bool.and_true]
    rw [Bool.and_comm]
   rw [this]
theorem ownv_flat (s:Txt) (hs:s.length≤1048576) (H:Hp):flatC C_tempfile_valid [.str s] H=some (.bool (validS s),H) :=
 flat1 (a':=.str s) rfl (H1:=[]) (valid_spec s (by omega) []) rfl
theorem Left_empty {H:Hp} {t:Nat} {s:Sto} {S:List Nat} (h:StoreAt H t s S) (hk:StoOk s) (he:s.files=[]) (ow:Txt) (ho:ow.length≤1048576):roC C_tempfile_Left [.ptr t 0,.str ow] H=some (.nils,H):=by
 have hv:=ownv_flat ow ho H
 have hnil:ebin (.pointer 68) .eql (.ptr t 0) .nilp=some (.bool false):=rfl
 refine roC_of (H1:=H) (v:=.nils) ?_ (Keep.refl _ _) (Nat.le_refl _) rfl
 rw [F_tempfile_Left_eq]
 unfold F_tempfile_Left
 cases hvs:validS ow with
 | false =>
  rw [hvs] at hv
  simp only [go_sem,hnil,hv,Bool.not_false]
 | true =>
  rw [hvs] at hv
  obtain ⟨x,q1,q2⟩:=List_ro h hk
  have hx:alenD (.slice 57) x=some (.int .i64 0):=by
   have:=Sl.len q2 142
   rw [he] at this
   exact this
  have hlt:decide ((0:Int) < 0)=false:=rfl
  simp only [go_sem,hnil,hv,Bool.not_true,tempfile_Left_J1_eq,prefix_run ow ho,q1,hx,tempfile_Left_L1_eq,hlt,tempfile_Left_J2_eq]
theorem TOpen_empty {H : Hp} {t : Nat} {s : Sto} {S : List Nat} (h : StoreAt H t s S) (hk : StoOk s) (he : s.files = []) (ow : Txt) (ho : ow.length ≤ 1048576) (hv : validS ow = true) (lim : Int) :
    ∃ H' A',C_tempfile_Open [.ptr t 0,.str ow,.int .i64 lim] H=some (.tuple [.ptr (H.length+1) 0,.int .i64 0],H')∧SysAt H' (H.length+1) t ⟨ow,[],[],(max 0 lim).toNat,0,false⟩ s A'∧Stp S H H'∧(∀ a ∈ A',a ∈ S ∨ H.length≤a):=by
 have hnil:ebin (.pointer 68) .eql (.ptr t 0) .nilp=some (.bool false):=rfl
 have hvf:=ownv_flat ow ho H
 rw [hv] at hvf
 have hlt:decide ((0:Int) < 0)=false:=rfl
 have hf1:(afill [(0,1,.ptr t 0),(1,1,.str ow),(3,1,.map H.length)] [.nilp,(.str []),.nils,.nilm]).map AV.agg=some (.agg [.ptr t 0,.str ow,.nils,.map H.length]):=rfl
 have hf2:(afill [(0,4,.agg [.ptr t 0,.str ow,.nils,.map H.length]),(4,1,.int .i64 (max 0 lim))] [.nilp,(.str []),.nils,.nilm,(.int .i64 0),(.int .i64 0),(.bool false)]).map AV.agg=some (.agg [.ptr t 0,.str ow,.nils,.map H.length,.int .i64 (max 0 lim),.int .i64 0,.bool false]):=rfl
 have hb:∀ l:List AV,abox (.agg l) (H++[.map [] 0])=some (.ptr (H.length+1) 0,H++[.map [] 0]++[.cells l]):=fun l=>by rw [abox_of rfl];simp [AV.cells]
 have hS:Stp S H (H++[AObj.map [] 0]++[.cells [.ptr t 0,.str ow,.nils,.map H.length,.int .i64 (max 0 lim),.int .i64 0,.bool false]]):=by rw [List.append_assoc];exact Stp.push _ _
 have hl:((max 0 lim).toNat:Int)=max 0 lim:=by omega
 refine ⟨H++[.map [] 0]++[.cells [.ptr t 0,.str ow,.nils,.map H.length,.int .i64 (max 0 lim),.int .i64 0,.bool false]],[H.length+1,H.length]++S,?_,⟨[H.length+1,H.length],S,⟨H.length,0,.nils,[],⟨?_,.inl ⟨rfl,rfl⟩,?_,rfl,by simp [tokA]⟩,rfl⟩,h.frame fun a ha=>?_,fun a ha hs=>?_,rfl⟩,hS,fun a ha=>?_⟩
 ·rw [F_tempfile_Open_eq]
  unfold F_tempfile_Open
  simp only [go_sem,hnil,tempfile_Open_J1_eq,hvf,Bool.not_true,tempfile_Open_J2_eq,Left_empty h hk he ow ho,tempfile_Open_L1_eq,hlt,tempfile_Open_J3_eq,hf1,hf2,hb]
 ·simp [hl]
 ·simp
 ·rw [List.append_assoc,List.getElem?_append_left (h.lt a ha)]
 ·have:=h.lt a hs
  simp at ha
  omega
 ·simp at ha
  rcases ha with e | e | ha
  ·exact .inr (by omega)
  ·exact .inr (by omega)
  ·exact .inl ha
end Go.Am
namespace Go.Am
set_option linter.unusedSimpArgs false
set_option linter.unusedVariables false
set_option linter.unusedSectionVars false
set_option maxRecDepth 100000
theorem getF_app {l:List Fil} {n:Txt} (h:getF l n=none) (f:Fil) (hf:f.name=n):getF (l++[f]) n=some f:=by
 induction l with
 | nil=>simp [getF,hf]
 | cons g l ih =>
  unfold getF at h
  split at h
  ·cases h
  ·rename_i hn
   rw [List.cons_append,getF,if_neg hn]
   exact ih h
theorem updF_app {l:List Fil} {n:Txt} (h:getF l n=none) (f:Fil) (hf:f.name=n) (u:Fil→Fil):updF (l++[f]) n u=l++[u f]:=by
 induction l with
 | nil=>simp [updF,hf]
 | cons g l ih =>
  unfold getF at h
  split at h
  ·cases h
  ·rename_i hn
   rw [List.cons_append,updF,if_neg hn,ih h]
   rfl
section
variable {tm:Tmp} {s:Sto} {n:Txt}
theorem run_new (hc : s.crashed = false) (h0 : s.count = 0) (hcl : tm.closed = false) (hn : n = tmpName tm.owner (tm.last + 1)) (hb : nameB n = true) (hg : getF s.files n = none) (h64 : s.files.length < 64) :
    tmNew tm s=((n,0),({ tm with last:=tm.last+1,names:=tm.names++[n] },{ s with files:=s.files++[⟨n,[],0⟩] })):=by
 subst hn
 unfold tmNew
 rw [if_neg (by simp [hcl])]
 have:s.create (tmpName tm.owner (tm.last+1))=(0,{ s with files:=s.files++[⟨tmpName tm.owner (tm.last+1),[],0⟩] }):=by
  unfold Sto.create
  rw [tick_still hc h0,if_neg (by simp [hc]),if_neg (by simp [hb]),hg]
  dsimp only
  rw [if_neg (by omega)]
 rw [this]
 rfl
theorem run_write {fs : List Fil} (hc : s.crashed = false) (h0 : s.count = 0) (hcl : tm.closed = false) (hn : n ∈ tm.names) (hs : n ∉ tm.sld) (hfs : s.files = fs ++ [⟨n, [], 0⟩]) (hg : getF fs n = none) {l : List Txt} (hfit : fitsR l = true) (hl : usedL fs + costR l ≤ s.limit) (ht : usedL fs + costR l ≤ tm.limit) :
    tmWrite tm s n l=(0,{ s with files:=fs++[⟨n,encS l,0⟩],peak:=max s.peak (usedL fs+costR l) }):=by
 have hu:usedL s.files=usedL fs:=by rw [hfs,usedL_app];simp [usedL]
 have hf:tmFind tm n=0:=by unfold tmFind;rw [if_neg (by simp [hcl]),if_pos hn]
 have hun:=usedN_le tm.names s.files
 unfold tmWrite
 rw [if_neg (by simp [hf]),if_neg hs,if_neg (by simp [hfit]),if_neg (by unfold tmUsed;omega)]
 unfold Sto.append
 rw [tick_still hc h0,if_neg (by simp [hc]),hfs,getF_app hg _ rfl]
 dsimp only
 rw [← hfs,hu,encS_len,if_neg (by omega),hfs,updF_app hg _ rfl]
 rfl
end
theorem SysAt.frame {H H':Hp} {o t:Nat} {tm:Tmp} {s:Sto} {A:List Nat} (h:SysAt H o t tm s A) (hf:∀ a ∈ A,H'[a]?=H[a]?):SysAt H' o t tm s A:=by
 obtain ⟨B,S,⟨ms,clk,nx,sl,h1,rfl⟩,h2,h3,rfl⟩:=h
 exact ⟨_,S,⟨ms,clk,nx,sl,h1.frame fun a ha=>hf a (by simp only [List.mem_append];exact .inl ha),rfl⟩,h2.frame fun a ha=>hf a (by simp [ha]),h3,rfl⟩
end Go.Am
