/-
  Temporary files in the machine: reading records; readers of runs.
-/
import Derived.Test.YtehanadfidoodaaGreatDoorNkNx
import Derived.Test.YtehanadfidoodaaGreatDoorNkGLx
import Derived.Test.YtehanadfidoodaaGreatDoorNkMzx
import Derived.Test.YtehanadfidoodaaGreatDoorEmXx
namespace Go.Am
set_option linter.unusedSimpArgs false
set_option linter.unusedVariables false
set_option linter.unusedSectionVars false
set_option maxRecDepth 100000

theorem tick_still {s:Sto} (h1:s.crashed = false) (h2:s.count = 0):s.tick = s:=by
  unfold Sto.tick
  rw [if_neg (by simp [h1]),if_neg (by omega)]
  cases s
  simp only at h2
  subst h2
  rfl
theorem SysAt.same {H H':Hp} {o t:Nat} {tm:Tmp} {s':Sto} {B S:List Nat} (h1:TmpAt H o t tm B) (h3:∀ a ∈ B,a ∉ S) (hr:StoRes H H' t s' S S):SysAt H' o t tm s' (B ++ S) :=
  ⟨B,S,h1.stp hr.stp h3,hr.at',h3,rfl⟩
section
variable {H:Hp} {o t:Nat} {tm:Tmp} {s:Sto} {A:List Nat} (h:SysAt H o t tm s A) (hm:TmpOk tm) (hk:StoOk s) (n:Txt)
include h hm hk
theorem TRead_crash (hf : tmFind tm n = 0) (hc : s.tick.crashed = true) (i : Int) (hi : -9223372036854775808 ≤ i ∧ i ≤ 9223372036854775807) :
    ∃ H',C_tempfile_Temps_Read [.ptr o 0,.str n,.int .i64 i] H = some (.tuple [.str [],.int .i64 0,.int .i64 19],H') ∧ SysAt H' o t tm s.tick A ∧ Stp A H H':=by
  obtain ⟨B,S,h1,h2,h3,rfl⟩:=h
  have hB:=h1
  obtain ⟨ms,clk,nx,sl,h1,rfl⟩:=h1
  have hfr:=find_run h1 hm n
  have l0:=ldn h1.cells 0 (v:=.ptr t 0) rfl
  have e0:(tmFind tm n != 0) = false:=by rw [hf]; rfl
  have e1:((19:Int) != 0) = true:=rfl
  obtain ⟨H1,p1,p2⟩:=Read_run h2 hk n i 4102 hi
  have hrd:s.read n i 4102 = ([],19):=by unfold Sto.read; rw [if_pos hc]
  rw [hrd] at p1
  refine ⟨H1,?_,SysAt.same hB h3 p2,p2.stp.mono fun a ha=>by simp [ha]⟩
  rw [F_tempfile_Temps_Read_eq]
  unfold F_tempfile_Temps_Read
  simp only [hfr,go_sem,e0,Nat.zero_add,tempfile_Temps_Read_J1_eq,l0,p1,List.getElem?_cons_zero,List.getElem?_cons_succ,e1]
theorem TRead_run (hf : tmFind tm n = 0) (hc : s.tick.crashed = false) {f : Fil} (hg : getF s.files n = some f) {p : Txt} {rest : List Txt} (ht : f.text = p ++ encS rest) (hfit : fitsR rest = true) (hlen : f.text.length ≤ 262144) :
    ∃ H', C_tempfile_Temps_Read [.ptr o 0, .str n, .int .i64 (p.length : Int)] H = some (match rest with
        | []=>.tuple [.str [],.int .i64 0,.int .i64 5]
        | l :: _=>.tuple [.str l,.int .i64 ((p ++ recS l).length:Int),.int .i64 0],H') ∧ SysAt H' o t tm s.tick A ∧ Stp A H H':=by
  obtain ⟨B,S,h1,h2,h3,rfl⟩:=h
  have hB:=h1
  obtain ⟨ms,clk,nx,sl,h1,rfl⟩:=h1
  have hfr:=find_run h1 hm n
  have l0:=ldn h1.cells 0 (v:=.ptr t 0) rfl
  have e0:(tmFind tm n != 0) = false:=by rw [hf]; rfl
  have ez:((0:Int) != 0) = false:=rfl
  have hpl:p.length ≤ f.text.length:=by rw [ht]; simp
  obtain ⟨H1,p1,p2⟩:=Read_run h2 hk n (p.length:Int) 4102 (by omega)
  have hrd:s.read n (p.length:Int) 4102 = ((encS rest).take 4102,0):=by
    unfold Sto.read
    rw [if_neg (by simp [hc]),hg]
    dsimp only
    rw [if_neg (by omega),Int.toNat_natCast,ht,List.drop_append_of_le_length (Nat.le_refl _),List.drop_length]
    rfl
  rw [hrd] at p1
  refine ⟨H1,?_,SysAt.same hB h3 p2,p2.stp.mono fun a ha=>by simp [ha]⟩
  rw [F_tempfile_Temps_Read_eq]
  unfold F_tempfile_Temps_Read
  cases rest with
  | nil =>
    have hem:((encS ([]:List Txt)).take 4102 == ([]:Txt)) = true:=rfl
    simp only [hfr,go_sem,e0,Nat.zero_add,tempfile_Temps_Read_J1_eq,l0,p1,List.getElem?_cons_zero,List.getElem?_cons_succ,ez,tempfile_Temps_Read_J2_eq,hem]
  | cons l r =>
    have hl:l.length ≤ 4096:=by
      simp only [fitsR,List.all_cons,Bool.and_eq_true,decide_eq_true_eq] at hfit
      exact hfit.1
    have htk:(encS (l :: r)).take 4102 = recS l ++ (encS r).take (4102 - (recS l).length):=by
      show (recS l ++ encS r).take 4102 = _
      rw [List.take_append,List.take_of_length_le (by rw [recS_len]; omega)]
    have hem:((encS (l :: r)).take 4102 == ([]:Txt)) = false:=by
      rw [htk]
      have:(recS l).length ≠ 0:=by rw [recS_len]; omega
      cases hr:recS l with
      | nil=>rw [hr] at this; simp at this
      | cons a b=>rfl
    have hnx:=next_flat l ((encS r).take (4102 - (recS l).length)) hl (by
      rw [List.length_take]
      omega) H1
    rw [← htk] at hnx
    have hel:(encS (l :: r)).length ≤ 262144:=by
      have:=congrArg List.length ht
      rw [List.length_append] at this
      omega
    have hrl:(recS l).length = l.length + 6:=recS_len l
    have hw:IntKind.i64.wrap ((p.length:Int) + ((l.length + 6:Nat):Int)) = ((p ++ recS l).length:Int):=by
      rw [List.length_append,hrl,wrap64 (by omega) (by omega)]; omega
    simp only [hfr,go_sem,e0,Nat.zero_add,tempfile_Temps_Read_J1_eq,l0,p1,List.getElem?_cons_zero,List.getElem?_cons_succ,ez,tempfile_Temps_Read_J2_eq,hem,tempfile_Temps_Read_J3_eq,hnx,tempfile_Temps_Read_J4_eq,hw]
end
abbrev rdC (o:Nat) (n:Txt) (i:Nat) (held fin:Bool) (line:Txt):List AV:=[.ptr o 0,.str n,.int .i64 (i:Int),.bool held,.bool fin,.str line]
def Rdr (H:Hp) (r o:Nat) (n text:Txt) (rest:List Txt):Prop :=
  (∃ l q p,H[r]? = some (.cells (rdC o n (p ++ recS l).length true false l)) ∧ rest = l :: q ∧ text = p ++ recS l ++ encS q) ∨
  (rest = [] ∧ ∃ p,H[r]? = some (.cells (rdC o n p false true []))) ∨
  ∃ p,H[r]? = some (.cells (rdC o n p.length false false [])) ∧ text = p ++ encS rest
theorem Rdr.cells {H:Hp} {r o:Nat} {n text:Txt} {rest:List Txt} (h:Rdr H r o n text rest):∃ c,H[r]? = some (.cells c):=by
  rcases h with ⟨l,q,p,h,_⟩ | ⟨_,p,h⟩ | ⟨p,h,_⟩ <;> exact ⟨_,h⟩
theorem Rdr.frame {H H':Hp} {r o:Nat} {n text:Txt} {rest:List Txt} (h:Rdr H r o n text rest) (hf:H'[r]? = H[r]?):Rdr H' r o n text rest:=by
  unfold Rdr at h ⊢
  rw [hf]
  exact h
section
variable {H:Hp} {o t:Nat} {tm:Tmp} {s:Sto} {A:List Nat} (h:SysAt H o t tm s A) (hm:TmpOk tm) (hk:StoOk s) {n:Txt} {r:Nat} {f:Fil} {rest:List Txt}
  (hr:Rdr H r o n f.text rest) (hrA:r ∉ A) (hf:tmFind tm n = 0) (hc:s.crashed = false) (h0:s.count = 0) (hg:getF s.files n = some f) (hfit:fitsR rest = true) (hlen:f.text.length ≤ 262144)
include h hm hk hr hrA hf hc h0 hg hfit hlen
theorem Peek_run : ∃ H', C_runs_Reader_Peek [.ptr r 0] H = some (.tuple [.str (rest.headD []), .bool (!rest.isEmpty), .int .i64 0], H') ∧ SysAt H' o t tm s A ∧ Stp (r :: A) H H' ∧
    (rest = [] ∧ (∃ p,H'[r]? = some (.cells (rdC o n p false true []))) ∨ ∃ l q p,H'[r]? = some (.cells (rdC o n (p ++ recS l).length true false l)) ∧ rest = l :: q ∧ f.text = p ++ recS l ++ encS q):=by
  have hts:=tick_still hc h0
  have hnil:ebin (.pointer 125) .eql (.ptr r 0) .nilp = some (.bool false):=rfl
  rw [F_runs_Reader_Peek_eq]
  unfold F_runs_Reader_Peek
  rcases hr with ⟨l,q,p,hr,rfl,htx⟩ | ⟨rfl,p,hr⟩ | ⟨p,hr,htx⟩
  · have l3:=ldn hr 3 (v:=.bool true) rfl
    have l5:=ldn hr 5 (v:=.str l) rfl
    refine ⟨H,?_,h,Stp.refl _ _,.inr ⟨l,q,p,hr,rfl,htx⟩⟩
    simp only [go_sem,Nat.zero_add,hnil,runs_Reader_Peek_J1_eq,l3,Bool.not_true,runs_Reader_Peek_J2_eq,runs_Reader_Peek_J3_eq,l5]
    rfl
  · have l3:=ldn hr 3 (v:=.bool false) rfl
    have l4:=ldn hr 4 (v:=.bool true) rfl
    refine ⟨H,?_,h,Stp.refl _ _,.inl ⟨rfl,p,hr⟩⟩
    simp only [go_sem,Nat.zero_add,hnil,runs_Reader_Peek_J1_eq,l3,l4,Bool.not_true,Bool.not_false,runs_Reader_Peek_J2_eq]
    rfl
  · have l3:=ldn hr 3 (v:=.bool false) rfl
    have l4:=ldn hr 4 (v:=.bool false) rfl
    have l0:=ldn hr 0 (v:=.ptr o 0) rfl
    have l1:=ldn hr 1 (v:=.str n) rfl
    have l2:=ldn hr 2 (v:=.int .i64 (p.length:Int)) rfl
    obtain ⟨H1,q1,q2,q3⟩:=TRead_run h hm hk n hf (by rw [hts]; exact hc) hg htx hfit hlen
    rw [hts] at q2
    have g1:=q3.get hr hrA
    cases rest with
    | nil =>
      have e5:((5:Int) == 0) = false:=rfl
      have e55:((5:Int) == 5) = true:=rfl
      have s4:=stn g1 4 (v:=.bool true) rfl rfl (by simp)
      have g2:=get_set_eq (AObj.cells (List.set (rdC o n p.length false false []) 4 (.bool true))) g1
      have k3:=ldn g2 3 (v:=.bool false) rfl
      have hS2:Stp (r :: A) H1 (H1.set r (.cells (List.set (rdC o n p.length false false []) 4 (.bool true)))):=Stp.set _ _ (by simp)
      refine ⟨H1.set r (.cells (List.set (rdC o n p.length false false []) 4 (.bool true))),?_,q2.stp (C:=[r]) (Stp.set _ _ (by simp)) (fun a ha=>by simp; exact fun e=>hrA (e ▸ ha)),(q3.mono (B:=r :: A) fun a ha=>by simp [ha]).trans hS2 (fun _ h=>h) (fun _ h=>.inl h),.inl ⟨rfl,p.length,g2⟩⟩
      simp only [go_sem,Nat.zero_add,hnil,runs_Reader_Peek_J1_eq,l3,l4,l0,l1,l2,q1,List.getElem?_cons_zero,List.getElem?_cons_succ,e5,e55,s4,runs_Reader_Peek_J2_eq,k3,Bool.not_false]
      rfl
    | cons l q =>
      have ez:((0:Int) == 0) = true:=rfl
      have s5:=stn g1 5 (v:=.str l) rfl rfl (by simp)
      have g2:=get_set_eq (AObj.cells (List.set (rdC o n p.length false false []) 5 (.str l))) g1
      have s2:=stn g2 2 (v:=.int .i64 ((p ++ recS l).length:Int)) rfl rfl (by simp)
      have g3:=get_set_eq (AObj.cells (List.set (List.set (rdC o n p.length false false []) 5 (.str l)) 2 (.int .i64 ((p ++ recS l).length:Int)))) g2
      have s3:=stn g3 3 (v:=.bool true) rfl rfl (by simp)
      have g4:=get_set_eq (AObj.cells (List.set (List.set (List.set (rdC o n p.length false false []) 5 (.str l)) 2 (.int .i64 ((p ++ recS l).length:Int))) 3 (.bool true))) g3
      generalize hH2:H1.set r (.cells (List.set (rdC o n p.length false false []) 5 (.str l))) = H2 at s5 s2 g3 s3 g4
      generalize hH3:H2.set r (.cells (List.set (List.set (rdC o n p.length false false []) 5 (.str l)) 2 (.int .i64 ((p ++ recS l).length:Int)))) = H3 at s2 s3 g4
      generalize hH4:H3.set r (.cells (List.set (List.set (List.set (rdC o n p.length false false []) 5 (.str l)) 2 (.int .i64 ((p ++ recS l).length:Int))) 3 (.bool true))) = H4 at s3 g4
      have k3:=ldn g4 3 (v:=.bool true) rfl
      have k5:=ldn g4 5 (v:=.str l) rfl
      have hS2:Stp [r] H1 H4:=by
        rw [← hH4,← hH3,← hH2]
        exact ((Stp.set _ _ (by simp)).trans (Stp.set _ _ (by simp)) (fun _ h=>h) fun _ h=>.inl h).trans (Stp.set _ _ (by simp)) (fun _ h=>h) fun _ h=>.inl h
      refine ⟨H4,?_,q2.stp hS2 (fun a ha=>by simp; exact fun e=>hrA (e ▸ ha)),(q3.mono (B:=r :: A) fun a ha=>by simp [ha]).trans (hS2.mono (B:=r :: A) fun a ha=>by rw [List.mem_singleton.1 ha]; simp) (fun _ h=>h) (fun _ h=>.inl h),.inr ⟨l,q,p,g4,rfl,by rw [htx]; simp [encS]⟩⟩
      simp only [go_sem,Nat.zero_add,hnil,runs_Reader_Peek_J1_eq,l3,l4,l0,l1,l2,q1,List.getElem?_cons_zero,List.getElem?_cons_succ,ez,s5,s2,s3,runs_Reader_Peek_J2_eq,k3,Bool.not_true,Bool.not_false,runs_Reader_Peek_J3_eq,k5]
      rfl
theorem Next_run:∃ H',C_runs_Reader_Next [.ptr r 0] H = some (.tuple [.str (rest.headD []),.bool (!rest.isEmpty),.int .i64 0],H') ∧ SysAt H' o t tm s A ∧ Stp (r :: A) H H' ∧ Rdr H' r o n f.text rest.tail:=by
  obtain ⟨H1,q1,q2,q3,q4⟩:=Peek_run h hm hk hr hrA hf hc h0 hg hfit hlen
  rw [F_runs_Reader_Next_eq]
  unfold F_runs_Reader_Next
  rcases q4 with ⟨rfl,p,g1⟩ | ⟨l,q,p,g1,rfl,htx⟩
  · refine ⟨H1,?_,q2,q3,.inr (.inl ⟨rfl,p,g1⟩)⟩
    simp only [q1,go_sem,List.getElem?_cons_zero,List.getElem?_cons_succ,List.isEmpty_nil,Bool.not_true,runs_Reader_Next_J1_eq]
  · have s3:=stn g1 3 (v:=.bool false) rfl rfl (by simp)
    have g2:=get_set_eq (AObj.cells (List.set (rdC o n (p ++ recS l).length true false l) 3 (.bool false))) g1
    have s5:=stn g2 5 (v:=.str []) rfl rfl (by simp)
    have g3:=get_set_eq (AObj.cells (List.set (List.set (rdC o n (p ++ recS l).length true false l) 3 (.bool false)) 5 (.str []))) g2
    generalize hH2:H1.set r (.cells (List.set (rdC o n (p ++ recS l).length true false l) 3 (.bool false))) = H2 at s3 s5 g3
    generalize hH3:H2.set r (.cells (List.set (List.set (rdC o n (p ++ recS l).length true false l) 3 (.bool false)) 5 (.str []))) = H3 at s5 g3
    have hS2:Stp [r] H1 H3:=by
      rw [← hH3,← hH2]
      exact (Stp.set _ _ (by simp)).trans (Stp.set _ _ (by simp)) (fun _ h=>h) fun _ h=>.inl h
    refine ⟨H3,?_,q2.stp hS2 (fun a ha=>by simp; exact fun e=>hrA (e ▸ ha)),q3.trans (hS2.mono (B:=r :: A) fun a ha=>by rw [List.mem_singleton.1 ha]; simp) (fun _ h=>h) (fun _ h=>.inl h),.inr (.inr ⟨p ++ recS l,g3,htx⟩)⟩
    simp only [q1,go_sem,List.getElem?_cons_zero,List.getElem?_cons_succ,List.isEmpty_cons,Bool.not_false,List.headD_cons,Nat.zero_add,s3,s5,runs_Reader_Next_J1_eq]
end
end Go.Am
namespace Go.Am
set_option linter.unusedSimpArgs false
set_option linter.unusedVariables false
set_option maxRecDepth 100000

section
variable {n:Nat} (hn:n < 32)
include hn
theorem and1:ibin .and (.int .i64 n) (.int .i64 1) = some (.int .i64 (if n.testBit 0 then 1 else 0)):=and_ok (j:=0) hn (by decide)
theorem and2:ibin .and (.int .i64 n) (.int .i64 2) = some (.int .i64 (if n.testBit 1 then 2 else 0)):=and_ok (j:=1) hn (by decide)
theorem and4:ibin .and (.int .i64 n) (.int .i64 4) = some (.int .i64 (if n.testBit 2 then 4 else 0)):=and_ok (j:=2) hn (by decide)
theorem and8:ibin .and (.int .i64 n) (.int .i64 8) = some (.int .i64 (if n.testBit 3 then 8 else 0)):=and_ok (j:=3) hn (by decide)
theorem and16:ibin .and (.int .i64 n) (.int .i64 16) = some (.int .i64 (if n.testBit 4 then 16 else 0)):=and_ok (j:=4) hn (by decide)
end
theorem flat4 {f:List AV → Hp → Res} {a a' b b' c c' d d' v:AV} {H H1:Hp} (ha:closeV [] 0 6 a = some a') (hb:closeV [] 0 6 b = some b') (hd:closeV [] 0 6 c = some c') (he:closeV [] 0 6 d = some d') (hc:f [a',b',c',d'] [] = some (v,H1)) (hv:flatV 3 v = true):flatC f [a,b,c,d] H = some (v,H) :=
  flatC_of (args':=[a',b',c',d']) (by simp [ha,hb,hd,he]) hc hv
theorem load_loc (L:Loc) (x c e:AV) (r:List AObj):aload true 6 (.ptr 0 0) (AObj.cells (L.cells x c e) :: r) = some (.agg (L.cells x c e)):=by simp [aload,Go.Am.apart,Loc.cells]

theorem neg_one {c:Int} (hc:c = -1 ∨ c = 0 ∨ c = 1):IntKind.i64.wrap (0 - c) = -c:=by rcases hc with rfl | rfl | rfl <;> decide
def stf (z:AObj) (n:Nat) (x y:List UInt8):Hp:=[z,.cells [.int .i64 n],.cells [.str x],.cells [.str y]]
theorem change_spec {z : AObj} {n : Nat} {x y : List UInt8} {fnv : AV} {g : List UInt8 → List UInt8} {m : Int} {bit : Bool} (hand : ibin .and (.int .i64 n) (.int .i64 m) = some (.int .i64 (if bit then m else 0))) (hm : (m != 0) = true)
    (hf:∀ s:List UInt8,(s = x ∨ s = y) → ∀ H,acallQ cfg (callw cfg) fnv [.str s] H = some (.str (g s),H)) :
    C_sortkey_parts_1 [.int .i64 m,fnv,.ptr 1 0,.ptr 2 0,.ptr 3 0] (stf z n x y) = some (.tuple [],stf z n (if bit then g x else x) (if bit then g y else y)):=by
  have l1:aload false 1 (.ptr 1 0) (stf z n x y) = some (.int .i64 n):=aload_f1 (l:=[.int .i64 n]) rfl
  have l2:aload false 1 (.ptr 2 0) (stf z n x y) = some (.str x):=aload_f1 (l:=[.str x]) rfl
  have l3:aload false 1 (.ptr 3 0) (stf z n x y) = some (.str y):=aload_f1 (l:=[.str y]) rfl
  have s1:astoreU 1 (.ptr 2 0) (.str (g x)) (stf z n x y) = some (.tuple [],stf z n (g x) y):=by simp [astoreU,astore,stf,AV.known,AV.cells,splice]
  have s2:astoreU 1 (.ptr 3 0) (.str (g y)) (stf z n (g x) y) = some (.tuple [],stf z n (g x) (g y)):=by simp [astoreU,astore,stf,AV.known,AV.cells,splice]
  rw [F_sortkey_parts_1_eq]
  unfold F_sortkey_parts_1
  cases bit with
  | true=>simp only [go_sem,l1,hand,if_true,hm,l2,hf x (.inl rfl),l3,hf y (.inr rfl),s1,s2]
  | false=>simp only [go_sem,l1,hand,Bool.false_eq_true,if_false,bne_self_eq_false]
theorem parts_flat {a:AV} {L:Loc} (h:LocAV a L) (hok:LocOk L) {n:Nat} (hn:n < 32) (s t:List UInt8) (hs:s.length ≤ 1048576) (ht:t.length ≤ 1048576) (H:Hp):flatC C_sortkey_parts [a,.int .i64 n,.str s,.str t] H = some (.int .i64 (partsS L n s t),H):=by
  obtain ⟨a1,h1,h2⟩:=h.close [] 0 2
  have h2':=h2
  obtain ⟨x,c,e,rfl,hx,hc,he⟩:=h2
  have hcl:LocCells (L.cells x c e) L:=⟨x,c,e,rfl,hx,hc,he⟩
  suffices hs:∃ H1,C_sortkey_parts [.agg (L.cells x c e),.int .i64 n,.str s,.str t] [] = some (.int .i64 (partsS L n s t),H1) by
    obtain ⟨H1,hr⟩:=hs
    exact flat4 h1 (b':=.int .i64 n) (c':=.str s) (d':=.str t) rfl rfl rfl hr rfl
  have l1:∀ z x y,aload false 1 (.ptr 1 0) (stf z n x y) = some (.int .i64 n):=fun z x y=>aload_f1 (l:=[.int .i64 n]) rfl
  have l2:∀ z x y,aload false 1 (.ptr 2 0) (stf z n x y) = some (.str x):=fun z x y=>aload_f1 (l:=[.str x]) rfl
  have l3:∀ z x y,aload false 1 (.ptr 3 0) (stf z n x y) = some (.str y):=fun z x y=>aload_f1 (l:=[.str y]) rfl
  have hJ2:∀ (z:Int) (hz:z = 1 ∨ z = -1),∃ H1,sortkey_parts_J2 (.ptr 0 0) (.ptr 1 0) (.ptr 2 0) (.ptr 3 0) (.int .i64 z) [] (stf (.cells (L.cells x c e)) n s t) = some (.int .i64 (if z = -1 then -cmpS L (shapeS L n s) (shapeS L n t) else cmpS L (shapeS L n s) (shapeS L n t)),H1):=fun z hz=>by
    have e1:=change_spec (z:=.cells (L.cells x c e)) (n:=n) (x:=s) (y:=t) (fnv:=.fn (.func 155) [] []) (g:=dropBl) (m:=8) (and8 hn) rfl (fun r _ H=>by rw [Q_sortkey_parts_2]; exact trim_flat r H)
    have d1:=dropBl_len s
    have d2:=dropBl_len t
    have e2:=change_spec (z:=.cells (L.cells x c e)) (n:=n) (x:=if n.testBit 3 then dropBl s else s) (y:=if n.testBit 3 then dropBl t else t) (fnv:=.fn (.func 157) [] []) (g:=dictS) (m:=16) (and16 hn) rfl (fun r hr H=>by
      rw [Q_sortkey_dict]
      refine dict_flat r ?_ H
      rcases hr with rfl | rfl <;> split <;> omega)
    have e3:=change_spec (z:=.dead) (n:=n) (x:=if n.testBit 4 then dictS (if n.testBit 3 then dropBl s else s) else (if n.testBit 3 then dropBl s else s)) (y:=if n.testBit 4 then dictS (if n.testBit 3 then dropBl t else t) else (if n.testBit 3 then dropBl t else t)) (fnv:=.fn (.func 158) [] [.vp (L.cells x c e)]) (g:=upS L) (m:=4) (and4 hn) rfl (fun r hr H=>by
      rw [Q_sortkey_parts_3]
      refine fold_flat hcl hok r ?_ H
      have:=dict_len s
      have:=dict_len t
      have:=dict_len (dropBl s)
      have:=dict_len (dropBl t)
      rcases hr with rfl | rfl <;> split <;> split <;> omega)
    have hl1:=shape_len L n s
    have hl2:=shape_len L n t
    have hfz:∀ (x' y':List UInt8) (k:AV → Hp → Res),frzK (.ptr 0 0) (stf (.cells (L.cells x c e)) n x' y') k = k (.vp (L.cells x c e)) (stf .dead n x' y'):=fun x' y' k=>rfl
    refine ⟨stf .dead n (shapeS L n s) (shapeS L n t),?_⟩
    rw [sortkey_parts_J2_eq]
    simp only [go_sem,V_sortkey_parts_1,List.nil_append,List.cons_append,e1,e2,hfz,e3,aload_vpn 6 (L.cells x c e) rfl,l2,l3]
    have hsh:∀ r,(if n.testBit 2 = true then upS L (if n.testBit 4 = true then dictS (if n.testBit 3 = true then dropBl r else r) else if n.testBit 3 = true then dropBl r else r) else if n.testBit 4 = true then dictS (if n.testBit 3 = true then dropBl r else r) else if n.testBit 3 = true then dropBl r else r) = shapeS L n r:=fun r=>rfl
    simp only [hsh,lcmp_flat h2' hok (shapeS L n s) (shapeS L n t) (by omega) (by omega),go_sem,turn_mul (cmpS_one _ _ _) hz]
  have hJ1:∀ (z:Int) (hz:z = 1 ∨ z = -1),∃ H1,sortkey_parts_J1 (.ptr 0 0) (.ptr 1 0) (.ptr 2 0) (.ptr 3 0) (.int .i64 z) [] (stf (.cells (L.cells x c e)) n s t) = some (.int .i64 (if z = -1 then -partsC L n s t else partsC L n s t),H1):=fun z hz=>by
    rw [sortkey_parts_J1_eq]
    unfold partsC
    cases hb:n.testBit 0 with
    | true =>
      obtain ⟨e1,p1⟩:=pre_flat s hs (stf (.cells (L.cells x c e)) n s t)
      obtain ⟨e2,p2⟩:=pre_flat t ht (stf (.cells (L.cells x c e)) n s t)
      refine ⟨stf (.cells (L.cells x c e)) n s t,?_⟩
      simp only [go_sem,l1,and1 hn,hb,if_true,show ((1:Int) != 0) = true from rfl,l2,l3,p1,p2,aext0,aext1,sign_flat,turn_mul (sgnS_one _ _) hz]
    | false =>
      obtain ⟨H1,q⟩:=hJ2 z hz
      refine ⟨H1,?_⟩
      simp only [go_sem,l1,and1 hn,hb,Bool.false_eq_true,if_false,bne_self_eq_false]
      exact q
  have b1:∀ (k:Int) (H:Hp),abox (.int .i64 k) H = some (.ptr H.length 0,H ++ [.cells [.int .i64 k]]):=fun k H=>abox_of rfl
  have b2:∀ (k:List UInt8) (H:Hp),abox (.str k) H = some (.ptr H.length 0,H ++ [.cells [.str k]]):=fun k H=>abox_of rfl
  rw [F_sortkey_parts_eq]
  unfold F_sortkey_parts
  have hst:[AObj.cells (L.cells x c e),.cells [.int .i64 n],.cells [.str s],.cells [.str t]] = stf (.cells (L.cells x c e)) n s t:=rfl
  unfold partsS
  cases hb:n.testBit 1 with
  | true =>
    obtain ⟨H1,q⟩:=hJ1 (-1) (.inr rfl)
    refine ⟨H1,?_⟩
    simp only [go_sem,b1,b2,List.length_nil,List.length_cons,List.nil_append,List.cons_append,Nat.zero_add,Nat.reduceAdd,hst,l1,and2 hn,hb,if_true,show ((2:Int) != 0) = true from rfl]
    simpa using q
  | false =>
    obtain ⟨H1,q⟩:=hJ1 1 (.inl rfl)
    refine ⟨H1,?_⟩
    simp only [go_sem,b1,b2,List.length_nil,List.length_cons,List.nil_append,List.cons_append,Nat.zero_add,Nat.reduceAdd,hst,l1,and2 hn,hb,Bool.false_eq_true,if_false,bne_self_eq_false]
    simpa using q
end Go.Am
namespace Go.Am
set_option linter.unusedSimpArgs false
set_option linter.unusedVariables false
set_option maxRecDepth 100000

def plainP:Spec:=⟨[],-1,0,false,false⟩
def validP (p:Spec):Spec:=if (checkS p != 0) = true then plainP else p
theorem Sl.known {k:Nat} {x:AV} {l:List AV} (h:Sl k x l):x.known = true:=by
  rcases h with ⟨rfl,_⟩ | ⟨tok,rfl⟩ <;> rfl

theorem vspec_flat {a:AV} {p:Spec} (h:SpecAV a p) (H:Hp):∃ a',flatC C_sortkey_valid [a] H = some (a',H) ∧ SpecAV a' (validP p):=by
  obtain ⟨a1,h1,h2⟩:=h.close [] 0 2
  have hck:=fun H=>check_flat h2 H
  obtain ⟨x,rfl,hx⟩:=h2
  have hl:aload true 5 (.ptr 0 0) [AObj.cells (p.cells x),.cells [.nils,.int .i64 0,.int .i64 0,.bool false,.bool false]] = some (.agg (p.cells x)):=by simp [aload,Go.Am.apart,Spec.cells]
  unfold validP
  cases hb:(checkS p != 0) with
  | true =>
    have hfill:(afill [(1,1,(.int .i64 (-1)))] [.nils,(.int .i64 0),(.int .i64 0),(.bool false),(.bool false)]).map AV.agg = some (.agg (plainP.cells .nils)):=rfl
    have hst:astoreU 5 (.ptr 1 0) (.agg (plainP.cells .nils)) [AObj.cells (p.cells x),.cells [.nils,.int .i64 0,.int .i64 0,.bool false,.bool false]] = some (.tuple [],[AObj.cells (p.cells x),.cells (plainP.cells .nils)]):=by simp [astoreU,astore,AV.known,AV.cells,Spec.cells,splice]
    have hl2:aload true 5 (.ptr 1 0) [AObj.cells (p.cells x),.cells (plainP.cells .nils)] = some (.agg (plainP.cells .nils)):=by simp [aload,Go.Am.apart,Spec.cells]
    have hrun:C_sortkey_valid [.agg (p.cells x)] [] = some (.agg (plainP.cells .nils),[AObj.cells (p.cells x),.cells (plainP.cells .nils)]):=by
      rw [F_sortkey_valid_eq]
      unfold F_sortkey_valid
      simp only [go_sem,List.nil_append,List.length_nil,List.length_cons,List.cons_append,Nat.zero_add,hl,hck,hb,hfill,hst,hl2]
    obtain ⟨a',q1,q2⟩:=SpecAV.close (a:=.agg (plainP.cells .nils)) (p:=plainP) ⟨.nils,rfl,.inl ⟨rfl,rfl⟩⟩ [AObj.cells (p.cells x),.cells (plainP.cells .nils)] 0 2
    exact ⟨a',flatC_eq h1 hrun q1,by simpa using q2⟩
  | false =>
    have hst:astoreU 5 (.ptr 1 0) (.agg (p.cells x)) [AObj.cells (p.cells x),.cells [.nils,.int .i64 0,.int .i64 0,.bool false,.bool false]] = some (.tuple [],[AObj.cells (p.cells x),.cells (p.cells x)]):=by simp [astoreU,astore,AV.known,AV.cells,Spec.cells,splice]
    have hl2:aload true 5 (.ptr 1 0) [AObj.cells (p.cells x),.cells (p.cells x)] = some (.agg (p.cells x)):=by simp [aload,Go.Am.apart,Spec.cells]
    have hrun:C_sortkey_valid [.agg (p.cells x)] [] = some (.agg (p.cells x),[AObj.cells (p.cells x),.cells (p.cells x)]):=by
      rw [F_sortkey_valid_eq]
      unfold F_sortkey_valid
      simp only [go_sem,List.nil_append,List.length_nil,List.length_cons,List.cons_append,Nat.zero_add,hl,hck,hb,sortkey_valid_J1_eq,hst,hl2]
    obtain ⟨a',q1,q2⟩:=SpecAV.close (a:=.agg (p.cells x)) (p:=p) ⟨x,rfl,hx⟩ [AObj.cells (p.cells x),.cells (p.cells x)] 0 2
    exact ⟨a',flatC_eq h1 hrun q1,by simpa using q2⟩

theorem validP_ok (p:Spec):(0 ≤ (validP p).flags ∧ (validP p).flags ≤ 31) ∧ (validP p).keys.length ≤ 8 ∧ ∀ k ∈ (validP p).keys,0 ≤ k.fl ∧ k.fl ≤ 31:=by
  unfold validP
  cases hb:(checkS p != 0) with
  | true=>simp [plainP]
  | false =>
    rw [bne_eq_false_iff_eq] at hb
    unfold checkS at hb
    split at hb
    · cases hb
    · split at hb
      · cases hb
      · split at hb
        · cases hb
        · rename_i h1 h2 h3
          simp only [Bool.or_eq_true,decide_eq_true_eq,not_or] at h2
          simp only [Bool.false_eq_true,if_false]
          refine ⟨by omega,by omega,fun k hk=>?_⟩
          have h4:¬ keyBad k = true:=fun h=>h3 (List.any_eq_true.2 ⟨k,hk,h⟩)
          simp only [keyBad,Bool.or_eq_true,decide_eq_true_eq,not_or] at h4
          omega
theorem validP_keys (p:Spec) (h:∀ k ∈ p.keys,KeOk k):∀ k ∈ (validP p).keys,KeOk k:=by
  unfold validP
  split
  · intro k hk; cases hk
  · exact h
theorem ex_len (line:List UInt8) (fs:List (Nat × Nat)) (k:Ke):(ex line fs k).length ≤ line.length:=by
  unfold ex
  split
  · dsimp only
    split
    · simp
    · rw [List.length_drop,List.length_take]; omega
  · simp
def flg (p:Spec) (k:Ke):Nat:=if (k.fl == 0) = true then p.flags.toNat else k.fl.toNat
def cmpK (L:Loc) (p:Spec) (a b:List UInt8):List Ke → Int
  | []=>0
  | k :: l=>if (partsS L (flg p k) (ex a (fields a p.sep) k) (ex b (fields b p.sep) k) != 0) = true then partsS L (flg p k) (ex a (fields a p.sep) k) (ex b (fields b p.sep) k) else cmpK L p a b l
theorem cmpK_cons (L:Loc) (p:Spec) (a b:List UInt8) (k:Ke) (l:List Ke):cmpK L p a b (k :: l) = if (partsS L (flg p k) (ex a (fields a p.sep) k) (ex b (fields b p.sep) k) != 0) = true then partsS L (flg p k) (ex a (fields a p.sep) k) (ex b (fields b p.sep) k) else cmpK L p a b l:=(Eq.refl _).trans (Eq.refl _)
def lineV (L:Loc) (p:Spec) (a b:List UInt8):Int:=if (p.keys.length == 0) = true then partsS L p.flags.toNat a b else cmpK L p a b p.keys
def lineS (L:Loc) (p:Spec) (a b:List UInt8):Int:=lineV L (validP p) a b
end Go.Am
namespace Go.Am
set_option linter.unusedSimpArgs false
set_option linter.unusedVariables false
set_option maxRecDepth 100000

def CSt (lc sc:List AV) (x4 x5:AV) (H:Hp):Prop:=(x4 = .vp lc ∧ x5 = .vp sc) ∨ (x4 = .ptr 0 0 ∧ x5 = .ptr 1 0 ∧ H = [.cells lc,.cells sc])
theorem CSt.frz {lc sc : List AV} {x4 x5 : AV} {H : Hp} (h : CSt lc sc x4 x5 H) (kc : List AV) : ∃ H2, ∀ K : AV → AV → AV → Hp → Res,
    (frzK x4 (H ++ [.cells kc]) fun z4 h4=>frzK x5 h4 fun z5 h5=>frzK (.ptr H.length 0) h5 fun z10 h10=>K z4 z5 z10 h10) = K (.vp lc) (.vp sc) (.vp kc) H2:=by
  rcases h with ⟨rfl,rfl⟩ | ⟨rfl,rfl,rfl⟩
  · refine ⟨H ++ [.dead],fun K=>?_⟩
    have hv:∀ (l:List AV) (H:Hp) (k:AV → Hp → Res),frzK (.vp l) H k = k (.vp l) H:=fun l H k=>rfl
    rw [hv,hv,frz_last]
  · exact ⟨[.dead,.dead,.dead],fun K=>rfl⟩
theorem CSt.fld {lc : List AV} {x : AV} {p : Spec} {x4 x5 : AV} {H : Hp} (h : CSt lc (p.cells x) x4 x5 H) :
    (∃ y,afield 0 x5 = some y ∧ ∀ r,aload false 1 y (H ++ r) = some x) ∧ (∃ y,afield 2 x5 = some y ∧ ∀ r,aload false 1 y (H ++ r) = some (.int .i64 p.flags)):=by
  rcases h with ⟨rfl,rfl⟩ | ⟨rfl,rfl,rfl⟩
  · exact ⟨⟨.vp (p.cells x),rfl,fun r=>by simp only [Spec.cells,aload_vpc]⟩,⟨.vp [.int .i64 p.flags,.bool p.uniq,.bool p.stab],rfl,fun r=>by simp only [aload_vpc]⟩⟩
  · exact ⟨⟨.ptr 1 0,rfl,fun r=>aload_f1 (l:=p.cells x) rfl⟩,⟨.ptr 1 2,rfl,fun r=>aload_f1 (l:=p.cells x) rfl⟩⟩
theorem vpf (x:AV) (p:Spec):afield 1 (.vp (p.cells x)) = some (.vp [.int .i64 p.sep,.int .i64 p.flags,.bool p.uniq,.bool p.stab]):=rfl
theorem aloadv_loc (L:Loc) (x c e:AV):aloadv true 6 (.vp (L.cells x c e)) = some (.agg (L.cells x c e)):=rfl
theorem aloadv_ke (k:Ke):aloadv true 5 (.vp k.cells) = some (.agg k.cells):=rfl
section
variable {L:Loc} {x c e:AV} (hav:LocAV (.agg (L.cells x c e)) L) (hok:LocOk L) {p:Spec} {xk:AV} (hk:Sl 5 xk (p.keys.map Ke.av)) (hlen:p.keys.length ≤ 8)
  (hks:∀ k ∈ p.keys,KeOk k) (hkf:∀ k ∈ p.keys,0 ≤ k.fl ∧ k.fl ≤ 31) (hfl:0 ≤ p.flags ∧ p.flags ≤ 31) (a b:List UInt8) (ha:a.length ≤ 1048576) (hb:b.length ≤ 1048576)
include hav hok hk hlen hks hkf hfl ha hb
theorem cmp_loop : ∀ (m i : Nat) (x4 x5 : AV) (H : Hp), p.keys.length - i = m → i ≤ p.keys.length → CSt (L.cells x c e) (p.cells xk) x4 x5 H →
    ∃ H',sortkey_Compare_L1 (.str a) (.str b) x4 x5 xk (.int .i64 (p.keys.length:Int)) (.int .i64 (i:Int)) [] H = some (.int .i64 (cmpK L p a b (p.keys.drop i)),H'):=by
  intro m
  induction m with
  | zero =>
    intro i x4 x5 H hm hi hst
    have hlt:decide ((i:Int) < (p.keys.length:Int)) = false:=by simp; omega
    have hd:p.keys.drop i = []:=List.drop_eq_nil_iff.2 (by omega)
    refine ⟨H,?_⟩
    rw [sortkey_Compare_L1_eq]
    simp only [go_sem,hlt,sortkey_Compare_J2_eq,hd,cmpK]
  | succ m ih =>
    intro i x4 x5 H hm hi hst
    have hi1:i < p.keys.length:=by omega
    have hlt:decide ((i:Int) < (p.keys.length:Int)) = true:=by simp; omega
    have hw:IntKind.i64.wrap ((i:Int) + 1) = ((i + 1:Nat):Int):=by rw [wrap64 (by omega) (by omega)]; omega
    have hmem:p.keys[i] ∈ p.keys:=List.getElem_mem hi1
    have hko:=hks _ hmem
    have hkf':=hkf _ hmem
    rw [List.drop_eq_getElem_cons hi1,cmpK_cons]
    have hget:p.keys[i]? = some p.keys[i]:=List.getElem?_eq_getElem hi1
    generalize p.keys[i] = k at hko hkf' hget
    obtain ⟨_,y,hy1,hy2⟩:=hst.fld
    obtain ⟨H2,hfz⟩:=hst.frz k.cells
    obtain ⟨H3,e1,_⟩:=extract_spec ha hko p.sep H2
    obtain ⟨H4,e2,_⟩:=extract_spec hb hko p.sep H3
    have l1:=ex_len a (fields a p.sep) k
    have l2:=ex_len b (fields b p.sep) k
    have hn:flg p k < 32:=by unfold flg; split <;> omega
    have hp:=parts_flat hav hok hn (ex a (fields a p.sep) k) (ex b (fields b p.sep) k) (by omega) (by omega) H4
    have hJ5:∃ H',sortkey_Compare_J5 (.str a) (.str b) x4 x5 (.ptr H.length 0) (.int .i64 (flg p k:Int)) xk (.int .i64 (p.keys.length:Int)) (.int .i64 (i:Int)) [] (H ++ [.cells k.cells]) = some (.int .i64 (if (partsS L (flg p k) (ex a (fields a p.sep) k) (ex b (fields b p.sep) k) != 0) = true then partsS L (flg p k) (ex a (fields a p.sep) k) (ex b (fields b p.sep) k) else cmpK L p a b (p.keys.drop (i + 1))),H'):=by
      rw [sortkey_Compare_J5_eq,hfz]
      simp only [aloadv_loc,aload_vp5,vpf,aload_vpc,aloadv_vpc,aloadv_ke,go_sem,e1,e2,hp]
      cases hc:(partsS L (flg p k) (ex a (fields a p.sep) k) (ex b (fields b p.sep) k) != 0) with
      | true=>exact ⟨H4,by simp only [go_sem,if_true]⟩
      | false =>
        obtain ⟨H5,q⟩:=ih (i + 1) (.vp (L.cells x c e)) (.vp (p.cells xk)) H4 (by omega) (by omega) (.inl ⟨rfl,rfl⟩)
        exact ⟨H5,by simp only [go_sem,Bool.false_eq_true,if_false,sortkey_Compare_J4_eq,hw,q]⟩
    obtain ⟨H',hJ5⟩:=hJ5
    refine ⟨H',?_⟩
    have hst5:=astore_last5 H k [.int .i64 0,.int .i64 0,.int .i64 0,.int .i64 0,.int .i64 0] rfl
    have hlf:aload false 1 (.ptr H.length (0 + 4)) (H ++ [.cells k.cells]) = some (.int .i64 k.fl):=aload_lastf H k.cells 4
    rw [sortkey_Compare_L1_eq]
    simp only [go_sem,hlt,sortkey_Compare_J3_eq,hk.key hget,aload_vp5,hst5,hlf]
    cases h0:(k.fl == 0) with
    | true =>
      have hf:(p.flags:Int) = ((flg p k:Nat):Int):=by unfold flg; rw [h0,if_pos rfl]; omega
      simp only [go_sem,hy1,hy2,hf]
      exact hJ5
    | false =>
      have hf:(k.fl:Int) = ((flg p k:Nat):Int):=by unfold flg; rw [h0,if_neg (by decide)]; omega
      simp only [go_sem]
      rw [hf]
      exact hJ5
end
end Go.Am
namespace Go.Am
set_option linter.unusedSimpArgs false
set_option linter.unusedVariables false
set_option maxRecDepth 100000

theorem line_flat {a : AV} {L : Loc} (h : LocAV a L) (hok : LocOk L) {q : AV} {p : Spec} (hq : SpecAV q p) (hks : ∀ k ∈ p.keys, KeOk k) (s t : List UInt8) (hs : s.length ≤ 1048576) (ht : t.length ≤ 1048576) (H : Hp) :
    flatC C_sortkey_Compare [a,q,.str s,.str t] H = some (.int .i64 (lineS L p s t),H):=by
  obtain ⟨a1,h1,h2⟩:=h.close [] 0 2
  obtain ⟨q1,g1,g2⟩:=hq.close [] 0 2
  have hav:=h2
  have hv:=fun H=>vspec_flat g2 H
  obtain ⟨x,c,e,rfl,hx,hc,he⟩:=h2
  obtain ⟨xp,rfl,hxp⟩:=g2
  obtain ⟨v',hv1,xv,rfl,hxv⟩:=hv [AObj.cells (L.cells x c e),.cells (p.cells xp)]
  obtain ⟨hfl,hlen,hkf⟩:=validP_ok p
  have hks':=validP_keys p hks
  suffices hs:∃ H1,C_sortkey_Compare [.agg (L.cells x c e),.agg (p.cells xp),.str s,.str t] [] = some (.int .i64 (lineS L p s t),H1) by
    obtain ⟨H1,hr⟩:=hs
    exact flat4 h1 g1 (c':=.str s) (d':=.str t) rfl rfl hr rfl
  have hl:aload true 5 (.ptr 1 0) [AObj.cells (L.cells x c e),.cells (p.cells xp)] = some (.agg (p.cells xp)):=by simp [aload,Go.Am.apart,Spec.cells]
  have hst:astoreU 5 (.ptr 1 0) (.agg ((validP p).cells xv)) [AObj.cells (L.cells x c e),.cells (p.cells xp)] = some (.tuple [],[AObj.cells (L.cells x c e),.cells ((validP p).cells xv)]):=by simp [astoreU,astore,AV.known,AV.cells,Spec.cells,splice]
  have hf0:aload false 1 (.ptr 1 (0 + 0)) [AObj.cells (L.cells x c e),.cells ((validP p).cells xv)] = some xv:=aload_f1 (l:=(validP p).cells xv) rfl
  have hf2:aload false 1 (.ptr 1 (0 + 2)) [AObj.cells (L.cells x c e),.cells ((validP p).cells xv)] = some (.int .i64 (validP p).flags):=aload_f1 (l:=(validP p).cells xv) rfl
  have hlk:=hxv.len 149
  rw [List.length_map] at hlk
  have hloc:=load_loc L x c e [.cells ((validP p).cells xv)]
  have hn:(validP p).flags.toNat < 32:=by omega
  have hfi:((validP p).flags:Int) = (((validP p).flags.toNat:Nat):Int):=by omega
  have hp:=parts_flat hav hok hn s t hs ht [AObj.cells (L.cells x c e),.cells ((validP p).cells xv)]
  rw [← hfi] at hp
  have hlen0:(((validP p).keys.length:Int) == 0) = ((validP p).keys.length == 0):=by
    rw [Bool.eq_iff_iff,beq_iff_eq,beq_iff_eq]; omega
  rw [F_sortkey_Compare_eq]
  unfold F_sortkey_Compare lineS lineV
  cases h0:((validP p).keys.length == 0) with
  | true =>
    exact ⟨[AObj.cells (L.cells x c e),.cells ((validP p).cells xv)],by simp only [go_sem,abox_agg,List.nil_append,List.length_nil,List.length_cons,List.cons_append,hl,hv1,hst,hf0,hlk,hlen0,h0,hloc,hf2,hp,if_true,Nat.zero_add,Nat.reduceAdd]⟩
  | false =>
    obtain ⟨H',r⟩:=cmp_loop hav hok hxv hlen hks' hkf hfl s t hs ht _ 0 (.ptr 0 0) (.ptr 1 0) _ rfl (Nat.zero_le _) (.inr ⟨rfl,rfl,rfl⟩)
    rw [List.drop_zero,show ((0:Nat):Int) = 0 from rfl] at r
    refine ⟨H',?_⟩
    simp only [go_sem,abox_agg,List.nil_append,List.length_nil,List.length_cons,List.cons_append,hl,hv1,hst,hf0,hlk,hlen0,h0,sortkey_Compare_J1_eq,r,Bool.false_eq_true,if_false,Nat.zero_add,Nat.reduceAdd]

def orderS (L:Loc) (p:Spec) (s t:List UInt8):Int :=
  if (lineS L (validP p) s t != 0 || (validP p).stab || (validP p).uniq) = true then lineS L (validP p) s t else if (validP p).flags.toNat.testBit 1 then -cmpS L s t else cmpS L s t

theorem ord_flat {a : AV} {L : Loc} (h : LocAV a L) (hok : LocOk L) {q : AV} {p : Spec} (hq : SpecAV q p) (hks : ∀ k ∈ p.keys, KeOk k) (s t : List UInt8) (hs : s.length ≤ 1048576) (ht : t.length ≤ 1048576) (H : Hp) :
    flatC C_sortkey_Order [a,q,.str s,.str t] H = some (.int .i64 (orderS L p s t),H):=by
  obtain ⟨a1,h1,h2⟩:=h.close [] 0 2
  obtain ⟨q1,g1,g2⟩:=hq.close [] 0 2
  have hav:=h2
  have hv:=fun H=>vspec_flat g2 H
  obtain ⟨x,c,e,rfl,hx,hc,he⟩:=h2
  obtain ⟨xp,rfl,hxp⟩:=g2
  obtain ⟨v',hv1,xv,rfl,hxv⟩:=hv [AObj.cells (L.cells x c e),.cells (p.cells xp)]
  obtain ⟨hfl,hlen,hkf⟩:=validP_ok p
  have hks':=validP_keys p hks
  suffices hs:∃ H1,C_sortkey_Order [.agg (L.cells x c e),.agg (p.cells xp),.str s,.str t] [] = some (.int .i64 (orderS L p s t),H1) by
    obtain ⟨H1,hr⟩:=hs
    exact flat4 h1 g1 (c':=.str s) (d':=.str t) rfl rfl hr rfl
  have hl:aload true 5 (.ptr 1 0) [AObj.cells (L.cells x c e),.cells (p.cells xp)] = some (.agg (p.cells xp)):=by simp [aload,Go.Am.apart,Spec.cells]
  have hst:astoreU 5 (.ptr 1 0) (.agg ((validP p).cells xv)) [AObj.cells (L.cells x c e),.cells (p.cells xp)] = some (.tuple [],[AObj.cells (L.cells x c e),.cells ((validP p).cells xv)]):=by simp [astoreU,astore,AV.known,AV.cells,Spec.cells,splice]
  have hl2:aload true 5 (.ptr 1 0) [AObj.cells (L.cells x c e),.cells ((validP p).cells xv)] = some (.agg ((validP p).cells xv)):=by simp [aload,Go.Am.apart,Spec.cells]
  have hf2:aload false 1 (.ptr 1 (0 + 2)) [AObj.cells (L.cells x c e),.cells ((validP p).cells xv)] = some (.int .i64 (validP p).flags):=aload_f1 (l:=(validP p).cells xv) rfl
  have hf3:aload false 1 (.ptr 1 (0 + 3)) [AObj.cells (L.cells x c e),.cells ((validP p).cells xv)] = some (.bool (validP p).uniq):=aload_f1 (l:=(validP p).cells xv) rfl
  have hf4:aload false 1 (.ptr 1 (0 + 4)) [AObj.cells (L.cells x c e),.cells ((validP p).cells xv)] = some (.bool (validP p).stab):=aload_f1 (l:=(validP p).cells xv) rfl
  have hloc:=load_loc L x c e [.cells ((validP p).cells xv)]
  have hn:(validP p).flags.toNat < 32:=by omega
  have hfi:((validP p).flags:Int) = (((validP p).flags.toNat:Nat):Int):=by omega
  have hline:=line_flat hav hok (q:=.agg ((validP p).cells xv)) ⟨xv,rfl,hxv⟩ hks' s t hs ht [AObj.cells (L.cells x c e),.cells ((validP p).cells xv)]
  have hcmp:=lcmp_flat hav hok s t hs ht [AObj.cells (L.cells x c e),.cells ((validP p).cells xv)]
  have hneg:=neg_one (cmpS_one L s t)
  have hbit:=and2 hn
  have hJ1:sortkey_Order_J1 (.str s) (.str t) (.ptr 0 0) (.ptr 1 0) [] [AObj.cells (L.cells x c e),.cells ((validP p).cells xv)] = some (.int .i64 (if (validP p).flags.toNat.testBit 1 then -cmpS L s t else cmpS L s t),[AObj.cells (L.cells x c e),.cells ((validP p).cells xv)]):=by
    rw [sortkey_Order_J1_eq]
    rw [hfi] at hf2
    cases hb:(validP p).flags.toNat.testBit 1 with
    | true =>
      rw [hb] at hbit
      simp only [go_sem,hloc,hcmp,hf2,hbit,aun_neg,hneg,if_true,show ((2:Int) != 0) = true from rfl]
    | false =>
      rw [hb] at hbit
      simp only [go_sem,hloc,hcmp,hf2,hbit,sortkey_Order_J2_eq,Bool.false_eq_true,if_false,bne_self_eq_false]
  refine ⟨[AObj.cells (L.cells x c e),.cells ((validP p).cells xv)],?_⟩
  rw [F_sortkey_Order_eq]
  unfold F_sortkey_Order orderS
  simp only [go_sem,abox_agg,List.nil_append,List.length_nil,List.length_cons,List.cons_append,hl,hv1,hst,hloc,hl2,hline,Nat.zero_add,Nat.reduceAdd]
  cases h0:(lineS L (validP p) s t != 0) with
  | true=>simp only [go_sem,Bool.true_or,if_true]
  | false =>
    simp only [go_sem,hf4,hf3]
    cases h4:(validP p).stab with
    | true=>simp only [go_sem,Bool.true_or,Bool.or_true,if_true]
    | false =>
      simp only [go_sem,hf3]
      cases h3:(validP p).uniq with
      | true=>simp only [go_sem,Bool.true_or,Bool.or_true,if_true]
      | false=>simp only [go_sem,hJ1,Bool.or_false,Bool.false_eq_true,if_false]

end Go.Am
namespace Go.Am
set_option linter.unusedSimpArgs false
set_option linter.unusedVariables false

structure Cm {α:Type} (f:α → α → Int):Prop where
  one:∀ a b,f a b = -1 ∨ f a b = 0 ∨ f a b = 1
  sym:∀ a b,f b a = -f a b
  tr:∀ a b c,f a b ≤ 0 → f b c ≤ 0 → f a c ≤ 0 ∧ (f a c < 0 ↔ f a b < 0 ∨ f b c < 0)
theorem Cm.of {α:Type} {f g:α → α → Int} (h:Cm f) (e:∀ a b,g a b = f a b):Cm g:=by
  have:g = f:=funext fun a=>funext fun b=>e a b
  rw [this]; exact h
theorem Cm.comap {α β:Type} {f:β → β → Int} (h:Cm f) (g:α → β):Cm fun a b=>f (g a) (g b) :=
  ⟨fun a b=>h.one _ _,fun a b=>h.sym _ _,fun a b c=>h.tr _ _ _⟩
theorem Cm.tr2 {α:Type} {f:α → α → Int} (h:Cm f) (a b c:α) (h1:0 ≤ f a b) (h2:0 ≤ f b c):0 ≤ f a c ∧ (0 < f a c ↔ 0 < f a b ∨ 0 < f b c):=by
  have e1:=h.sym a b
  have e2:=h.sym b c
  have e3:=h.sym a c
  have:=h.tr c b a (by omega) (by omega)
  omega
theorem Cm.self {α:Type} {f:α → α → Int} (h:Cm f) (a:α):f a a = 0:=by
  have:=h.sym a a
  omega
theorem Cm.neg {α:Type} {f:α → α → Int} (h:Cm f):Cm fun a b=>-f a b:=by
  refine ⟨fun a b=>?_,fun a b=>?_,fun a b c h1 h2=>?_⟩
  · have:=h.one a b
    show -f a b = _ ∨ -f a b = _ ∨ -f a b = _
    omega
  · have:=h.sym a b
    show -f b a = - -f a b
    omega
  · have:=h.tr2 a b c (by omega) (by omega)
    show -f a c ≤ 0 ∧ (-f a c < 0 ↔ -f a b < 0 ∨ -f b c < 0)
    omega
theorem Cm.lex {α:Type} {f g:α → α → Int} (h:Cm f) (k:Cm g):Cm fun a b=>if (f a b != 0) = true then f a b else g a b:=by
  have e:∀ a b,(if (f a b != 0) = true then f a b else g a b) = if f a b = 0 then g a b else f a b:=fun a b=>by
    by_cases h0:f a b = 0 <;> simp [h0]
  refine Cm.of (f:=fun a b=>if f a b = 0 then g a b else f a b) ⟨fun a b=>?_,fun a b=>?_,fun a b c=>?_⟩ e
  · show (if f a b = 0 then g a b else f a b) = -1 ∨ _ ∨ _
    have h1:=h.one a b
    have h2:=k.one a b
    split <;> assumption
  · show (if f b a = 0 then g b a else f b a) = -(if f a b = 0 then g a b else f a b)
    have h1:=h.sym a b
    have h2:=k.sym a b
    split <;> split <;> omega
  · show (if f a b = 0 then g a b else f a b) ≤ 0 → (if f b c = 0 then g b c else f b c) ≤ 0 → (if f a c = 0 then g a c else f a c) ≤ 0 ∧ ((if f a c = 0 then g a c else f a c) < 0 ↔ (if f a b = 0 then g a b else f a b) < 0 ∨ (if f b c = 0 then g b c else f b c) < 0)
    have h1:=h.tr a b c
    have h2:=k.tr a b c
    intro q1 q2
    by_cases z1:f a b = 0 <;> by_cases z2:f b c = 0 <;> by_cases z3:f a c = 0 <;> simp only [z1,z2,z3,if_true,if_false] at q1 q2 ⊢ <;> omega
theorem sgnS_cm:Cm sgnS:=by
  refine ⟨sgnS_one,fun a b=>?_,fun a b c=>?_⟩
  · unfold sgnS
    split <;> split <;> (try split) <;> (try split) <;> omega
  · unfold sgnS
    intro h1 h2
    by_cases c1:a < b <;> by_cases c2:b < a <;> by_cases c3:b < c <;> by_cases c4:c < b <;> by_cases c5:a < c <;> by_cases c6:c < a <;> simp only [c1,c2,c3,c4,c5,c6,if_true,if_false] at h1 h2 ⊢ <;> omega
theorem ordS_cm:Cm ordS:=by
  refine ⟨ordS_one,?_,?_⟩
  · intro a
    induction a with
    | nil=>intro b; cases b <;> simp [ordS]
    | cons x a ih =>
      intro b
      cases b with
      | nil=>simp [ordS]
      | cons y b =>
        rw [ordS_cons,ordS_cons]
        have:=ih b
        split <;> split <;> (try split) <;> (try split) <;> omega
  · intro a
    induction a with
    | nil=>intro b c; cases b <;> cases c <;> simp [ordS]
    | cons x a ih =>
      intro b c
      cases b with
      | nil=>cases c <;> simp [ordS]
      | cons y b =>
        cases c with
        | nil=>simp [ordS]
        | cons z c =>
          rw [ordS_cons,ordS_cons,ordS_cons]
          have:=ih b c
          intro h1 h2
          by_cases c1:x < y <;> by_cases c2:y < x <;> by_cases c3:y < z <;> by_cases c4:z < y <;> by_cases c5:x < z <;> by_cases c6:z < x <;> simp only [c1,c2,c3,c4,c5,c6,if_true,if_false] at h1 h2 ⊢ <;> omega
theorem cmpB_cm:Cm cmpB:=(ordS_cm.comap natS).of fun a b=>(cmpB_ord a b).symm
theorem cmpS_cm (L:Loc):Cm (cmpS L):=(ordS_cm.comap (wS (validL L))).lex cmpB_cm
theorem partsC_cm (L:Loc) (n:Nat):Cm (partsC L n):=by
  cases hb:n.testBit 0 with
  | true=>exact (sgnS_cm.comap preS).of fun a b=>by simp [partsC,hb]
  | false=>exact ((cmpS_cm L).comap (shapeS L n)).of fun a b=>by simp [partsC,hb]
theorem partsS_cm (L:Loc) (n:Nat):Cm (partsS L n):=by
  cases hb:n.testBit 1 with
  | true=>exact (partsC_cm L n).neg.of fun a b=>by simp [partsS,hb]
  | false=>exact (partsC_cm L n).of fun a b=>by simp [partsS,hb]
theorem cmpK_cm (L:Loc) (p:Spec):∀ l:List Ke,Cm fun a b=>cmpK L p a b l:=by
  intro l
  induction l with
  | nil=>exact ⟨fun _ _=>.inr (.inl rfl),fun _ _=>rfl,fun _ _ _ _ _=>⟨Int.le_refl _,by simp [cmpK]⟩⟩
  | cons k l ih=>exact (((partsS_cm L (flg p k)).comap fun a=>ex a (fields a p.sep) k).lex ih).of fun a b=>cmpK_cons L p a b k l
theorem lineV_cm (L:Loc) (p:Spec):Cm (lineV L p):=by
  cases hb:(p.keys.length == 0) with
  | true=>exact (partsS_cm L p.flags.toNat).of fun a b=>by simp only [lineV,hb,if_true]
  | false=>exact (cmpK_cm L p p.keys).of fun a b=>by simp only [lineV,hb,Bool.false_eq_true,if_false]
theorem lineS_cm (L:Loc) (p:Spec):Cm (lineS L p):=lineV_cm L (validP p)
theorem checkS_valid (p:Spec):checkS (validP p) = 0:=by
  unfold validP
  cases hb:(checkS p != 0) with
  | true=>rfl
  | false=>simpa using hb
theorem validP_idem (p:Spec):validP (validP p) = validP p:=by
  show (if (checkS (validP p) != 0) = true then plainP else validP p) = validP p
  rw [checkS_valid]
  rfl
theorem lineS_valid (L:Loc) (p:Spec) (a b:List UInt8):lineS L (validP p) a b = lineS L p a b:=by unfold lineS; rw [validP_idem]
def lastS (L:Loc) (p:Spec) (a b:List UInt8):Int:=if (validP p).flags.toNat.testBit 1 then -cmpS L a b else cmpS L a b
theorem lastS_cm (L:Loc) (p:Spec):Cm (lastS L p):=by
  cases hb:(validP p).flags.toNat.testBit 1 with
  | true=>exact (cmpS_cm L).neg.of fun a b=>by simp [lastS,hb]
  | false=>exact (cmpS_cm L).of fun a b=>by simp [lastS,hb]
theorem orderS_sure {L:Loc} {p:Spec} (h:((validP p).stab || (validP p).uniq) = true) (a b:List UInt8):orderS L p a b = lineS L p a b:=by
  unfold orderS
  rw [lineS_valid,Bool.or_assoc,h,Bool.or_true,if_pos rfl]
theorem orderS_last {L:Loc} {p:Spec} (h:((validP p).stab || (validP p).uniq) = false) (a b:List UInt8):orderS L p a b = if (lineS L p a b != 0) = true then lineS L p a b else lastS L p a b:=by
  unfold orderS lastS
  rw [lineS_valid,Bool.or_assoc,h,Bool.or_false]
theorem orderS_cm (L:Loc) (p:Spec):Cm (orderS L p):=by
  cases hb:((validP p).stab || (validP p).uniq) with
  | true=>exact (lineS_cm L p).of (orderS_sure hb)
  | false=>exact ((lineS_cm L p).lex (lastS_cm L p)).of (orderS_last hb)
end Go.Am
namespace Go.Am
set_option linter.unusedSimpArgs false
set_option linter.unusedVariables false
set_option linter.unusedSectionVars false

section
variable {α:Type} {f:α → α → Int}
def Srt (f:α → α → Int) (l:List α):Prop:=l.Pairwise fun a b=>f a b ≤ 0
def eqv (f:α → α → Int) (x y:α):Bool:=f x y == 0
def mergeL (f:α → α → Int):List α → List α → List α
  | [],b=>b
  | a :: l,[]=>a :: l
  | a :: l,b :: m=>if 0 < f a b then b :: mergeL f (a :: l) m else a :: mergeL f l (b :: m)
termination_by a b=>a.length + b.length
theorem mergeL_nil (b:List α):mergeL f [] b = b:=by rw [mergeL]
theorem mergeL_nil2 (a:List α):mergeL f a [] = a:=by cases a <;> rw [mergeL]
theorem mergeL_cons (a b:α) (l m:List α):mergeL f (a :: l) (b :: m) = if 0 < f a b then b :: mergeL f (a :: l) m else a :: mergeL f l (b :: m):=by rw [mergeL]
def msortN (f:α → α → Int):Nat → List α → List α
  | 0,l=>l
  | n + 1,l=>if l.length < 2 then l else mergeL f (msortN f n (l.take (l.length / 2))) (msortN f n (l.drop (l.length / 2)))
def posB (f:α → α → Int) (S:List α) (y:α):Nat → Nat
  | 0=>0
  | k + 1=>match S[k]? with
    | some s=>if 0 < f s y then posB f S y k else k + 1
    | none=>posB f S y k
def insB (f:α → α → Int) (S:List α) (y:α):List α:=S.take (posB f S y S.length) ++ y :: S.drop (posB f S y S.length)
def insL (f:α → α → Int) (l:List α):List α:=l.foldl (insB f) []
def sameLast (g:α → α → Int) (out:List α) (x:α):Bool:=match out.getLast? with
  | some y=>g y x == 0
  | none=>false
def onceL (g:α → α → Int):List α → List α → List α
  | out,[]=>out
  | out,x :: l=>onceL g (if sameLast g out x = true then out else out ++ [x]) l
variable (h:Cm f)
include h
theorem Cm.eqv_iff (x y:α):eqv f x y = true ↔ f x y = 0:=by unfold eqv; rw [beq_iff_eq]
theorem Cm.le_trans {a b c:α} (h1:f a b ≤ 0) (h2:f b c ≤ 0):f a c ≤ 0:=(h.tr a b c h1 h2).1
theorem Cm.lt_le {a b c:α} (h1:f a b < 0) (h2:f b c ≤ 0):f a c < 0:=(h.tr a b c (by omega) h2).2.2 (.inl h1)
theorem Cm.le_lt {a b c:α} (h1:f a b ≤ 0) (h2:f b c < 0):f a c < 0:=(h.tr a b c h1 (by omega)).2.2 (.inr h2)
theorem srt_uniq:∀ A B:List α,Srt f A → Srt f B → (∀ x,A.filter (eqv f x) = B.filter (eqv f x)) → A = B:=by
  intro A
  have self:∀ x,eqv f x x = true:=fun x=>by rw [h.eqv_iff]; exact h.self x
  induction A with
  | nil =>
    intro B _ _ hf
    cases B with
    | nil=>rfl
    | cons b B =>
      have:=hf b
      rw [List.filter_cons,self b] at this
      simp at this
  | cons a A ih =>
    intro B hA hB hf
    cases B with
    | nil =>
      have:=hf a
      rw [List.filter_cons,self a] at this
      simp at this
    | cons b B =>
      have hA':=List.pairwise_cons.1 hA
      have hB':=List.pairwise_cons.1 hB
      have hbA:b ∈ a :: A:=by
        have h1:b ∈ (b :: B).filter (eqv f b):=List.mem_filter.2 ⟨by simp,self b⟩
        rw [← hf b] at h1
        exact (List.mem_filter.1 h1).1
      have haB:a ∈ b :: B:=by
        have h1:a ∈ (a :: A).filter (eqv f a):=List.mem_filter.2 ⟨by simp,self a⟩
        rw [hf a] at h1
        exact (List.mem_filter.1 h1).1
      have h1:f a b ≤ 0:=by
        rcases List.mem_cons.1 hbA with e | e
        · rw [e,h.self]; exact Int.le_refl _
        · exact hA'.1 b e
      have h2:f b a ≤ 0:=by
        rcases List.mem_cons.1 haB with e | e
        · rw [e,h.self]; exact Int.le_refl _
        · exact hB'.1 a e
      have h3:f a b = 0:=by have:=h.sym a b; omega
      have hab:a = b:=by
        have:=hf a
        rw [List.filter_cons,self a,List.filter_cons,(h.eqv_iff a b).2 h3] at this
        simp only [if_true,List.cons.injEq] at this
        exact this.1
      subst hab
      congr 1
      refine ih B hA'.2 hB'.2 fun x=>?_
      have:=hf x
      rw [List.filter_cons,List.filter_cons] at this
      split at this
      · simpa using this
      · exact this
theorem merge_mem:∀ (A B:List α) (x:α),x ∈ mergeL f A B ↔ x ∈ A ∨ x ∈ B:=by
  intro A B x
  induction A,B using mergeL.induct f with
  | case1 b=>simp [mergeL_nil]
  | case2 a l=>simp [mergeL_nil2]
  | case3 a l b m hc ih =>
    rw [mergeL_cons,if_pos hc,List.mem_cons,ih]
    simp only [List.mem_cons]
    constructor
    · rintro (h | h | h) <;> simp [h]
    · rintro (h | h | h) <;> simp [h]
  | case4 a l b m hc ih =>
    rw [mergeL_cons,if_neg hc,List.mem_cons,ih]
    simp only [List.mem_cons]
    constructor
    · rintro (h | h | h) <;> simp [h]
    · rintro ((h | h) | h) <;> simp [h]
theorem merge_srt:∀ A B:List α,Srt f A → Srt f B → Srt f (mergeL f A B):=by
  intro A B
  induction A,B using mergeL.induct f with
  | case1 b=>intro _ hB; rw [mergeL_nil]; exact hB
  | case2 a l=>intro hA _; rw [mergeL_nil2]; exact hA
  | case3 a l b m hc ih =>
    intro hA hB
    rw [mergeL_cons,if_pos hc]
    have hA':=List.pairwise_cons.1 hA
    have hB':=List.pairwise_cons.1 hB
    refine List.pairwise_cons.2 ⟨fun y hy=>?_,ih hA hB'.2⟩
    rcases (merge_mem h _ _ y).1 hy with hy | hy
    · have hba:f b a < 0:=by have:=h.sym a b; omega
      rcases List.mem_cons.1 hy with e | e
      · rw [e]; omega
      · have:=h.lt_le hba (hA'.1 y e); omega
    · exact hB'.1 y hy
  | case4 a l b m hc ih =>
    intro hA hB
    rw [mergeL_cons,if_neg hc]
    have hA':=List.pairwise_cons.1 hA
    have hB':=List.pairwise_cons.1 hB
    refine List.pairwise_cons.2 ⟨fun y hy=>?_,ih hA'.2 hB⟩
    rcases (merge_mem h _ _ y).1 hy with hy | hy
    · exact hA'.1 y hy
    · rcases List.mem_cons.1 hy with e | e
      · rw [e]; omega
      · exact h.le_trans (by omega) (hB'.1 y e)
theorem merge_filter (x:α):∀ A B:List α,Srt f A → (mergeL f A B).filter (eqv f x) = A.filter (eqv f x) ++ B.filter (eqv f x):=by
  intro A B
  induction A,B using mergeL.induct f with
  | case1 b=>intro _; rw [mergeL_nil]; simp
  | case2 a l=>intro _; rw [mergeL_nil2]; simp
  | case3 a l b m hc ih =>
    intro hA
    have hA':=List.pairwise_cons.1 hA
    rw [mergeL_cons,if_pos hc,List.filter_cons,ih hA]
    cases hb:eqv f x b with
    | false=>simp only [List.filter_cons,hb,Bool.false_eq_true,if_false]
    | true =>
      rw [h.eqv_iff] at hb
      have hba:f b a < 0:=by have:=h.sym a b; omega
      have hnil:(a :: l).filter (eqv f x) = []:=by
        rw [List.filter_eq_nil_iff]
        intro y hy hxy
        rw [h.eqv_iff] at hxy
        have h1:f b y < 0:=by
          rcases List.mem_cons.1 hy with e | e
          · rw [e]; exact hba
          · exact h.lt_le hba (hA'.1 y e)
        have h2:=h.le_lt (a:=x) (b:=b) (c:=y) (by omega) h1
        omega
      rw [hnil]
      simp [List.filter_cons,(h.eqv_iff x b).2 hb]
  | case4 a l b m hc ih =>
    intro hA
    have hA':=List.pairwise_cons.1 hA
    rw [mergeL_cons,if_neg hc,List.filter_cons,ih hA'.2,List.filter_cons (xs:=l)]
    split <;> simp
theorem msort_spec:∀ (n:Nat) (l:List α),l.length ≤ n → Srt f (msortN f n l) ∧ ∀ x,(msortN f n l).filter (eqv f x) = l.filter (eqv f x):=by
  intro n
  induction n with
  | zero=>intro l hl; have:l = []:=List.length_eq_zero_iff.1 (by omega); subst this; exact ⟨List.Pairwise.nil,fun _=>rfl⟩
  | succ n ih =>
    intro l hl
    unfold msortN
    split
    · rename_i h2
      refine ⟨?_,fun _=>rfl⟩
      match l,h2 with
      | [],_=>exact List.Pairwise.nil
      | [a],_=>exact List.pairwise_singleton _ _
    · rename_i h2
      obtain ⟨a1,a2⟩:=ih (l.take (l.length / 2)) (by rw [List.length_take]; omega)
      obtain ⟨b1,b2⟩:=ih (l.drop (l.length / 2)) (by rw [List.length_drop]; omega)
      refine ⟨merge_srt h _ _ a1 b1,fun x=>?_⟩
      rw [merge_filter h x _ _ a1,a2,b2,← List.filter_append,List.take_append_drop]
omit h in
theorem posB_le (S:List α) (y:α):∀ k,posB f S y k ≤ k:=by
  intro k
  induction k with
  | zero=>exact Nat.le_refl _
  | succ k ih =>
    unfold posB
    split
    · split <;> omega
    · omega
omit h in
theorem posB_above (S:List α) (y:α):∀ k,∀ j s,posB f S y k ≤ j → j < k → S[j]? = some s → 0 < f s y:=by
  intro k
  induction k with
  | zero=>intro j s _ h2; omega
  | succ k ih =>
    intro j s h1 h2 hs
    unfold posB at h1
    by_cases hj:j = k
    · subst hj
      rw [hs] at h1
      simp only at h1
      split at h1
      · assumption
      · omega
    · split at h1
      · split at h1
        · exact ih j s h1 (by omega) hs
        · omega
      · exact ih j s h1 (by omega) hs
omit h in
theorem posB_at (S:List α) (y:α):∀ k,posB f S y k = 0 ∨ ∃ s,S[posB f S y k - 1]? = some s ∧ f s y ≤ 0:=by
  intro k
  induction k with
  | zero=>exact .inl rfl
  | succ k ih =>
    unfold posB
    split
    · rename_i s hs
      split
      · exact ih
      · exact .inr ⟨s,by simpa using hs,by omega⟩
    · exact ih
theorem ins_srt {S:List α} (hS:Srt f S) (y:α):Srt f (insB f S y):=by
  unfold insB
  have hle:=posB_le (f:=f) S y S.length
  have hS':Srt f (S.take (posB f S y S.length) ++ S.drop (posB f S y S.length)):=by rw [List.take_append_drop]; exact hS
  obtain ⟨s1,s2,s3⟩:=List.pairwise_append.1 hS'
  have hdrop:∀ z ∈ S.drop (posB f S y S.length),f y z < 0:=fun z hz=>by
    obtain ⟨j,hj⟩:=List.getElem?_of_mem hz
    rw [List.getElem?_drop] at hj
    have hlt:=(List.getElem?_eq_some_iff.1 hj).1
    have:=posB_above S y S.length _ z (Nat.le_add_right _ _) hlt hj
    have:=h.sym z y
    omega
  have htake:∀ z ∈ S.take (posB f S y S.length),f z y ≤ 0:=fun z hz=>by
    rcases posB_at (f:=f) S y S.length with h0 | ⟨s,h1,h2⟩
    · rw [h0] at hz; simp at hz
    · obtain ⟨j,hj⟩:=List.getElem?_of_mem hz
      obtain ⟨hjl,hje⟩:=List.getElem?_eq_some_iff.1 hj
      rw [List.length_take] at hjl
      rw [List.getElem?_take_of_lt (by omega)] at hj
      by_cases he:j = posB f S y S.length - 1
      · rw [← he,hj] at h1
        injection h1 with h1
        rw [h1]; exact h2
      · have hzs : f z s ≤ 0 := by
          obtain ⟨hl1,e1⟩:=List.getElem?_eq_some_iff.1 hj
          obtain ⟨hl2,e2⟩:=List.getElem?_eq_some_iff.1 h1
          rw [← e1,← e2]
          exact List.pairwise_iff_getElem.1 hS _ _ hl1 hl2 (by omega)
        exact h.le_trans hzs h2
  refine List.pairwise_append.2 ⟨s1,List.pairwise_cons.2 ⟨fun z hz=>by have:=hdrop z hz; omega,s2⟩,fun a ha b hb=>?_⟩
  rcases List.mem_cons.1 hb with e | e
  · rw [e]; exact htake a ha
  · exact s3 a ha b e
theorem ins_filter (S:List α) (y x:α):(insB f S y).filter (eqv f x) = S.filter (eqv f x) ++ [y].filter (eqv f x):=by
  unfold insB
  have hS':S.filter (eqv f x) = (S.take (posB f S y S.length)).filter (eqv f x) ++ (S.drop (posB f S y S.length)).filter (eqv f x):=by rw [← List.filter_append,List.take_append_drop]
  rw [hS',List.filter_append,List.append_assoc]
  congr 1
  rw [List.filter_cons,List.filter_cons,List.filter_nil]
  cases hxy:eqv f x y with
  | false=>simp
  | true =>
    rw [h.eqv_iff] at hxy
    have:(S.drop (posB f S y S.length)).filter (eqv f x) = []:=by
      rw [List.filter_eq_nil_iff]
      intro z hz hxz
      rw [h.eqv_iff] at hxz
      obtain ⟨j,hj⟩:=List.getElem?_of_mem hz
      rw [List.getElem?_drop] at hj
      have hlt:=(List.getElem?_eq_some_iff.1 hj).1
      have h1:=posB_above S y S.length _ z (Nat.le_add_right _ _) hlt hj
      have h2:=h.sym z y
      have h3:=h.le_lt (a:=x) (b:=y) (c:=z) (by omega) (by omega)
      omega
    rw [this]
    simp
theorem fold_ins:∀ (l S:List α),Srt f S → Srt f (l.foldl (insB f) S) ∧ ∀ x,(l.foldl (insB f) S).filter (eqv f x) = S.filter (eqv f x) ++ l.filter (eqv f x):=by
  intro l
  induction l with
  | nil=>intro S hS; exact ⟨hS,fun x=>by simp⟩
  | cons y l ih =>
    intro S hS
    obtain ⟨a,b⟩:=ih (insB f S y) (ins_srt h hS y)
    refine ⟨a,fun x=>?_⟩
    rw [List.foldl_cons,b,ins_filter h,List.append_assoc,← List.filter_append]
    rfl
theorem msort_ins (l:List α) {n:Nat} (hn:l.length ≤ n):msortN f n l = insL f l:=by
  obtain ⟨a1,a2⟩:=msort_spec h n l hn
  obtain ⟨b1,b2⟩:=fold_ins h l [] List.Pairwise.nil
  exact srt_uniq h _ _ a1 b1 fun x=>by rw [a2,show insL f l = l.foldl (insB f) [] from rfl,b2]; rfl
end
end Go.Am
namespace Go.Am
set_option linter.unusedSimpArgs false
set_option linter.unusedVariables false
set_option linter.unusedSectionVars false
set_option maxRecDepth 100000

structure Fv (K:AV → Prop) (t:Str → Str → Bool):Prop where
  close:∀ v,K v → ∃ v',closeV [] 0 6 v = some v' ∧ K v'
  run:∀ v,K v → ∀ a b:Str,a.length ≤ 1048576 → b.length ≤ 1048576 → ∀ H,acall cfg (callw cfg) v [.str a,.str b] H = some (.bool (t a b),H)
theorem merge_len {f:Str → Str → Int}:∀ A B:List Str,(mergeL f A B).length = A.length + B.length:=by
  intro A B
  induction A,B using mergeL.induct f with
  | case1 b=>simp [mergeL_nil]
  | case2 a l=>simp [mergeL_nil2]
  | case3 a l b m hc ih=>rw [mergeL_cons,if_pos hc,List.length_cons,ih]; simp only [List.length_cons]; omega
  | case4 a l b m hc ih=>rw [mergeL_cons,if_neg hc,List.length_cons,ih]; simp only [List.length_cons]; omega
theorem merge_mem' {f:Str → Str → Int}:∀ (A B:List Str) (x:Str),x ∈ mergeL f A B → x ∈ A ∨ x ∈ B:=by
  intro A B x
  induction A,B using mergeL.induct f with
  | case1 b=>simp [mergeL_nil]
  | case2 a l=>simp [mergeL_nil2]
  | case3 a l b m hc ih =>
    rw [mergeL_cons,if_pos hc,List.mem_cons]
    rintro (h | h)
    · exact .inr (by simp [h])
    · rcases ih h with h | h
      · exact .inl h
      · exact .inr (by simp [h])
  | case4 a l b m hc ih =>
    rw [mergeL_cons,if_neg hc,List.mem_cons]
    rintro (h | h)
    · exact .inl (by simp [h])
    · rcases ih h with h | h
      · exact .inl (by simp [h])
      · exact .inr h
theorem msort_facts {f:Str → Str → Int}:∀ (n:Nat) (l:List Str),(msortN f n l).length = l.length ∧ ∀ s ∈ msortN f n l,s ∈ l:=by
  intro n
  induction n with
  | zero=>intro l; exact ⟨rfl,fun s h=>h⟩
  | succ n ih =>
    intro l
    unfold msortN
    split
    · exact ⟨rfl,fun s h=>h⟩
    · obtain ⟨a1,a2⟩:=ih (l.take (l.length / 2))
      obtain ⟨b1,b2⟩:=ih (l.drop (l.length / 2))
      refine ⟨by rw [merge_len,a1,b1,List.length_take,List.length_drop]; omega,fun s hs=>?_⟩
      rcases merge_mem' _ _ s hs with h | h
      · exact List.mem_of_mem_take (a2 s h)
      · exact List.mem_of_mem_drop (b2 s h)
section
variable {K:AV → Prop} {f:Str → Str → Int} (hK:Fv K fun a b=>decide (0 < f a b))
include hK
theorem merge_loop {v : AV} (hv : K v) (H0 : Hp) : ∀ (A B acc : List Str) (x6 x7 x8 : AV) (H : Hp), SS x6 A → SS x7 B → RS H x8 acc → Lens A → Lens B → acc.length + A.length + B.length ≤ 4194304 →
    ∃ y H',memsort_mergeSort_of_string_L1 v x6 x7 x8 H0 H = some (y,H') ∧ RS H' y (acc ++ mergeL f A B):=by
  intro A B
  induction A,B using mergeL.induct f with
  | case1 B =>
    intro acc x6 x7 x8 H h6 h7 h8 hA hB hl
    obtain ⟨y1,H1,q1,q2⟩:=h8.app h6 (by omega)
    obtain ⟨y2,H2,q3,q4⟩:=q2.app h7 (by simp at hl ⊢; omega)
    refine ⟨y2,H2,?_,by rw [mergeL_nil]; simpa using q4⟩
    have hl6:=SS.len h6 9
    rw [memsort_mergeSort_of_string_L1_eq]
    simp only [go_sem,hl6,List.length_nil,show decide ((0:Int) < ((0:Nat):Int)) = false from rfl,memsort_mergeSort_of_string_J2_eq,q1,q3]
  | case2 a l =>
    intro acc x6 x7 x8 H h6 h7 h8 hA hB hl
    obtain ⟨y1,H1,q1,q2⟩:=h8.app h6 (by simp at hl ⊢; omega)
    obtain ⟨y2,H2,q3,q4⟩:=q2.app h7 (by simp at hl ⊢; omega)
    refine ⟨y2,H2,?_,by rw [mergeL_nil2]; simpa using q4⟩
    have hl6:=SS.len h6 9
    have hl7:=SS.len h7 9
    have hp:decide ((0:Int) < (((a :: l).length:Nat):Int)) = true:=by simp
    rw [memsort_mergeSort_of_string_L1_eq]
    simp only [go_sem,hl6,hl7,hp,List.length_nil,show decide ((0:Int) < ((0:Nat):Int)) = false from rfl,memsort_mergeSort_of_string_J2_eq,q1,q3]
  | case3 a l b m hc ih =>
    intro acc x6 x7 x8 H h6 h7 h8 hA hB hl
    have hl6:=SS.len h6 9
    have hl7:=SS.len h7 9
    have hp:decide ((0:Int) < (((a :: l).length:Nat):Int)) = true:=by simp
    have hp':decide ((0:Int) < (((b :: m).length:Nat):Int)) = true:=by simp
    have hi6:=SS.idx h6 (i:=0) (s:=a) rfl
    have hi7:=SS.idx h7 (i:=0) (s:=b) rfl
    obtain ⟨x7',r1,r2⟩:=SS.lo h7 (n:=1) (by simp)
    have hrun:=hK.run v hv a b (hA a (by simp)) (hB b (by simp)) H
    obtain ⟨y1,H1,q1,q2⟩:=h8.app (one_SS b) (by simp at hl ⊢; omega)
    obtain ⟨y,H',q3,q4⟩:=ih (acc ++ [b]) x6 x7' y1 H1 h6 r2 q2 hA (fun s hs=>hB s (by simp [hs])) (by simp at hl ⊢; omega)
    refine ⟨y,H',?_,by rw [mergeL_cons,if_pos hc]; simpa using q4⟩
    rw [show ((0:Nat):Int) = 0 from rfl] at hi6 hi7
    rw [show ((1:Nat):Int) = 1 from rfl] at r1
    rw [memsort_mergeSort_of_string_L1_eq]
    simp only [go_sem,hl6,hl7,hp,hp',memsort_mergeSort_of_string_J3_eq,hi6,hi7,aload_vpc,hrun,decide_eq_true hc,one_str,q1,r1,q3]
  | case4 a l b m hc ih =>
    intro acc x6 x7 x8 H h6 h7 h8 hA hB hl
    have hl6:=SS.len h6 9
    have hl7:=SS.len h7 9
    have hp:decide ((0:Int) < (((a :: l).length:Nat):Int)) = true:=by simp
    have hp':decide ((0:Int) < (((b :: m).length:Nat):Int)) = true:=by simp
    have hi6:=SS.idx h6 (i:=0) (s:=a) rfl
    have hi7:=SS.idx h7 (i:=0) (s:=b) rfl
    obtain ⟨x6',r1,r2⟩:=SS.lo h6 (n:=1) (by simp)
    have hrun:=hK.run v hv a b (hA a (by simp)) (hB b (by simp)) H
    obtain ⟨y1,H1,q1,q2⟩:=h8.app (one_SS a) (by simp at hl ⊢; omega)
    obtain ⟨y,H',q3,q4⟩:=ih (acc ++ [a]) x6' x7 y1 H1 r2 h7 q2 (fun s hs=>hA s (by simp [hs])) hB (by simp at hl ⊢; omega)
    refine ⟨y,H',?_,by rw [mergeL_cons,if_neg hc]; simpa using q4⟩
    rw [show ((0:Nat):Int) = 0 from rfl] at hi6 hi7
    rw [show ((1:Nat):Int) = 1 from rfl] at r1
    rw [memsort_mergeSort_of_string_L1_eq]
    simp only [go_sem,hl6,hl7,hp,hp',memsort_mergeSort_of_string_J3_eq,hi6,hi7,aload_vpc,hrun,decide_eq_false hc,one_str,q1,r1,q3]
theorem msort_flat:∀ (n:Nat) (l:List Str) (x v:AV),l.length ≤ n → l.length ≤ 1048576 → Lens l → SS x l → K v → ∀ H,∃ y,flatC C_memsort_mergeSort_of_string [x,v] H = some (y,H) ∧ SS y (msortN f n l):=by
  intro n
  induction n with
  | zero =>
    intro l x v hn hl hL hx hv H
    have:l = []:=List.length_eq_zero_iff.1 (by omega)
    subst this
    obtain ⟨x',c1,c2⟩:=SS.closed hx [] 0 4
    obtain ⟨v',c3,c4⟩:=hK.close v hv
    obtain ⟨y,p1,p2⟩:=clone_flat c2 hl []
    have p3:=SS.len c2 9
    obtain ⟨y',q1,q2⟩:=SS.closed p2 [] 0 4
    refine ⟨y',flatC_eq2 c1 c3 ?_ q1,q2⟩
    rw [F_memsort_mergeSort_of_string_eq]
    unfold F_memsort_mergeSort_of_string
    simp only [go_sem,p3,List.length_nil,show decide (((0:Nat):Int) < 2) = true from rfl,p1]
  | succ n ih =>
    intro l x v hn hl hL hx hv H
    obtain ⟨x',c1,c2⟩:=SS.closed hx [] 0 4
    obtain ⟨v',c3,c4⟩:=hK.close v hv
    have p3:=SS.len c2 9
    unfold msortN
    by_cases h2:l.length < 2
    · have hd:decide ((l.length:Int) < 2) = true:=by simp; omega
      obtain ⟨y,p1,p2⟩:=clone_flat c2 hl []
      obtain ⟨y',q1,q2⟩:=SS.closed p2 [] 0 4
      rw [if_pos h2]
      refine ⟨y',flatC_eq2 c1 c3 ?_ q1,q2⟩
      rw [F_memsort_mergeSort_of_string_eq]
      unfold F_memsort_mergeSort_of_string
      simp only [go_sem,p3,hd,p1]
    · rw [if_neg h2]
      have hd:decide ((l.length:Int) < 2) = false:=by simp; omega
      have hq:ibin .quo (.int .i64 (l.length:Int)) (.int .i64 2) = some (.int .i64 ((l.length / 2:Nat):Int)):=by
        simp [ibin,ashift,intbin]
        exact wrap64 (by omega) (by omega)
      obtain ⟨xa,a1,a2⟩:=SS.hi c2 (n:=l.length / 2) (by omega)
      obtain ⟨xb,b1,b2⟩:=SS.lo c2 (n:=l.length / 2) (by omega)
      obtain ⟨ya,a3,a4⟩:=ih (l.take (l.length / 2)) xa v' (by rw [List.length_take]; omega) (by rw [List.length_take]; omega) (fun s hs=>hL s (List.mem_of_mem_take hs)) a2 c4 []
      obtain ⟨yb,b3,b4⟩:=ih (l.drop (l.length / 2)) xb v' (by rw [List.length_drop]; omega) (by rw [List.length_drop]; omega) (fun s hs=>hL s (List.mem_of_mem_drop hs)) b2 c4 []
      obtain ⟨fa1,fa2⟩:=msort_facts (f:=f) n (l.take (l.length / 2))
      obtain ⟨fb1,fb2⟩:=msort_facts (f:=f) n (l.drop (l.length / 2))
      have hmake:amake 1 16 false (.str []) (.int .i64 0) (.int .i64 (l.length:Int)) [] = some (.vs 1 (.own 0 0) [],[.tok 0]):=by
        have hf:fits (l.length:Int).toNat 16 = true:=by simp [fits]; omega
        unfold amake
        dsimp only
        rw [if_pos ⟨Int.le_refl _,by omega,rfl,rfl,by decide,hf⟩]
        simp
      have hrow:RS [AObj.tok 0] (.vs 1 (.own 0 0) []) []:=.inr ⟨0,0,rfl,rfl,Nat.le_refl _⟩
      obtain ⟨y,H',q1,q2⟩:=merge_loop hK c4 [] (msortN f n (l.take (l.length / 2))) (msortN f n (l.drop (l.length / 2))) [] ya yb _ _ a4 b4 hrow
        (fun s hs=>hL s (List.mem_of_mem_take (fa2 s hs))) (fun s hs=>hL s (List.mem_of_mem_drop (fb2 s hs))) (by rw [fa1,fb1,List.length_take,List.length_drop,List.length_nil]; omega)
      rw [List.nil_append] at q2
      obtain ⟨y',q3,q4⟩:=q2.done H'
      refine ⟨y',flatC_eq2 c1 c3 ?_ q3,q4⟩
      rw [F_memsort_mergeSort_of_string_eq]
      unfold F_memsort_mergeSort_of_string
      simp only [go_sem,p3,hd,memsort_mergeSort_of_string_J1_eq,hq,a1,a3,b1,b3,hmake,q1]
end
theorem onceL_len {g:Str → Str → Int}:∀ (l out:List Str),(onceL g out l).length ≤ out.length + l.length:=by
  intro l
  induction l with
  | nil=>intro out; simp [onceL]
  | cons x l ih =>
    intro out
    unfold onceL
    refine Nat.le_trans (ih _) ?_
    split <;> simp <;> omega
theorem onceL_mem {g:Str → Str → Int}:∀ (l out:List Str),∀ s ∈ onceL g out l,s ∈ out ∨ s ∈ l:=by
  intro l
  induction l with
  | nil=>intro out s hs; exact .inl hs
  | cons x l ih =>
    intro out s hs
    unfold onceL at hs
    rcases ih _ s hs with h | h
    · split at h
      · exact .inl h
      · rcases List.mem_append.1 h with h | h
        · exact .inl h
        · exact .inr (by rw [List.mem_singleton.1 h]; simp)
    · exact .inr (by simp [h])
theorem once_loop {K : AV → Prop} {g : Str → Str → Int} (hK : Fv K fun a b => g a b == 0) {v : AV} (hv : K v) {x : AV} {l : List Str} (hx : SS x l) (hL : Lens l) (hl : l.length ≤ 1048576) (H0 : Hp) : ∀ (r done out : List Str) (x5 : AV) (H : Hp), l = done ++ r → RS H x5 out → Lens out → out.length ≤ done.length →
    ∃ y H',memsort_once_of_string_L1 v x5 x (.int .i64 (l.length:Int)) (.int .i64 (done.length:Int)) H0 H = some (y,H') ∧ RS H' y (onceL g out r):=by
  intro r
  induction r with
  | nil =>
    intro done out x5 H hd h5 ho hod
    rw [List.append_nil] at hd
    subst hd
    have hlt:decide ((l.length:Int) < (l.length:Int)) = false:=by simp
    refine ⟨x5,H,?_,h5⟩
    rw [memsort_once_of_string_L1_eq]
    simp only [go_sem,hlt,memsort_once_of_string_J1_eq]
  | cons a r ih =>
    intro done out x5 H hd h5 ho hod
    have hlen:l.length = done.length + (r.length + 1):=by rw [hd]; simp
    have hlt:decide ((done.length:Int) < (l.length:Int)) = true:=by simp; omega
    have hw1:IntKind.i64.wrap ((done.length:Int) + 1) = ((done.length + 1:Nat):Int):=by rw [wrap64 (by omega) (by omega)]; omega
    have hia:l[done.length]? = some a:=by rw [hd,List.getElem?_append_right (Nat.le_refl _)]; simp
    have hi:=SS.idx hx hia
    have haL:a.length ≤ 1048576:=hL a (List.mem_of_getElem? hia)
    have h5l:=SS.len h5.sl 9
    obtain ⟨y1,H1,q1,q2⟩:=h5.app (one_SS a) (by simp; omega)
    have keepit:∀ out' x5' H',RS H' x5' out' → Lens out' → out'.length ≤ done.length + 1 → ∃ y H'',memsort_once_of_string_J3 v x5' x (.int .i64 (l.length:Int)) (.int .i64 (done.length:Int)) H0 H' = some (y,H'') ∧ RS H'' y (onceL g out' r):=fun out' x5' H' h1 h2 h3=>by
      obtain ⟨y,H'',p1,p2⟩:=ih (done ++ [a]) out' x5' H' (by rw [hd]; simp) h1 h2 (by simpa using h3)
      rw [List.length_append,List.length_singleton] at p1
      exact ⟨y,H'',by simp only [memsort_once_of_string_J3_eq,go_sem,hw1,p1],p2⟩
    have hlens':Lens (out ++ [a]):=fun s hs=>by
      rcases List.mem_append.1 hs with h | h
      · exact ho s h
      · rw [List.mem_singleton.1 h]; exact haL
    have hJ2:∃ y H',memsort_once_of_string_J2 v x5 x (.int .i64 (l.length:Int)) (.int .i64 (done.length:Int)) (.bool true) H0 H = some (y,H') ∧ RS H' y (onceL g out (a :: r)):=by
      rw [memsort_once_of_string_J2_eq]
      unfold onceL
      cases hol:out.getLast? with
      | none =>
        have:out = []:=List.getLast?_eq_none_iff.1 hol
        subst this
        rw [show sameLast g [] a = false from rfl]
        obtain ⟨y,H'',p1,p2⟩:=keepit _ _ _ q2 hlens' (by simp)
        refine ⟨y,H'',?_,by simpa using p2⟩
        simp only [go_sem,hi,aload_vpc,h5l,List.length_nil,show (((0:Nat):Int) == 0) = true from rfl,one_str,q1,p1]
      | some z =>
        have hne:out ≠ []:=fun e=>by subst e; simp at hol
        have hpos:0 < out.length:=List.length_pos_iff.2 hne
        have hzi:out[out.length - 1]? = some z:=by rw [← List.getLast?_eq_getElem?]; exact hol
        have h0:((out.length:Int) == 0) = false:=by rw [beq_eq_false_iff_ne]; omega
        have hwm:IntKind.i64.wrap ((out.length:Int) - 1) = ((out.length - 1:Nat):Int):=by rw [wrap64 (by omega) (by omega)]; omega
        have hiz:=SS.idx h5.sl hzi
        have hrun:=hK.run v hv z a (ho z (List.mem_of_getElem? hzi)) haL H
        have hsl:sameLast g out a = (g z a == 0):=by unfold sameLast; rw [hol]
        simp only [go_sem,hi,aload_vpc,h5l,h0,hwm,hiz,hrun,hsl]
        cases hg:(g z a == 0) with
        | true =>
          obtain ⟨y,H'',p1,p2⟩:=keepit _ _ _ h5 ho (by omega)
          exact ⟨y,H'',by simp only [Bool.not_true,go_sem,p1],by simpa using p2⟩
        | false =>
          obtain ⟨y,H'',p1,p2⟩:=keepit _ _ _ q2 hlens' (by simp; omega)
          exact ⟨y,H'',by simp only [Bool.not_false,go_sem,one_str,q1,p1],by simpa using p2⟩
    obtain ⟨y,H',p1,p2⟩:=hJ2
    refine ⟨y,H',?_,p2⟩
    rw [memsort_once_of_string_L1_eq]
    simp only [go_sem,hlt,p1]
theorem once_flat {K:AV → Prop} {g:Str → Str → Int} (hK:Fv K fun a b=>g a b == 0) {v:AV} (hv:K v) {x:AV} {l:List Str} (hx:SS x l) (hL:Lens l) (hl:l.length ≤ 1048576) (H:Hp):∃ y,flatC C_memsort_once_of_string [x,v] H = some (y,H) ∧ SS y (onceL g [] l):=by
  obtain ⟨x',c1,c2⟩:=SS.closed hx [] 0 4
  obtain ⟨v',c3,c4⟩:=hK.close v hv
  obtain ⟨y,H',p1,p2⟩:=once_loop hK c4 c2 hL hl [] l [] [] .nils [] rfl (RowN.nil _ _ _) (fun s hs=>by cases hs) (Nat.le_refl _)
  rw [List.length_nil,show ((0:Nat):Int) = 0 from rfl] at p1
  obtain ⟨y',q1,q2⟩:=p2.done H'
  refine ⟨y',flatC_eq2 c1 c3 ?_ q1,q2⟩
  have p3:=SS.len c2 9
  rw [F_memsort_once_of_string_eq]
  unfold F_memsort_once_of_string
  simp only [go_sem,p3,p1]
end Go.Am
namespace Go.Am
set_option linter.unusedSimpArgs false
set_option linter.unusedVariables false
set_option linter.unusedSectionVars false
set_option maxRecDepth 100000

def SpecCells (l:List AV) (p:Spec):Prop:=∃ x,l = p.cells x ∧ Sl 5 x (p.keys.map Ke.av)
theorem SpecCells.close {l:List AV} {p:Spec} (h:SpecCells l p) (H:Hp) (n f:Nat):∃ l',l.mapM (closeV H n (f + 3)) = some l' ∧ SpecCells l' p:=by
  obtain ⟨x,rfl,hx⟩:=h
  obtain ⟨x',h1,h2⟩:=hx.close (H:=H) (n:=n) (f:=f + 2) (fun c hc=>by
    obtain ⟨k,_,rfl⟩:=List.mem_map.1 hc
    exact k.close H n f)
  refine ⟨p.cells x',?_,x',rfl,h2⟩
  simp only [Spec.cells,List.mapM_cons,h1,List.mapM_nil]
  rfl
def ClK (g:Nat) (L:Loc) (p:Spec) (v:AV):Prop:=∃ lc sc,v = .fn (.func g) [] [.vp lc,.vp sc] ∧ LocCells lc L ∧ SpecCells sc p
theorem closeV_fn2 (H : Hp) (n f : Nat) (g : Fn) (a b : AV) : closeV H n (f + 1) (.fn g [] [a, b]) = match closeV H n f a, closeV H n f b with
    | some a',some b'=>some (.fn g [] [a',b'])
    | _,_=>none:=by
  show (match ([] : List AV).mapM (closeV H n f), [a, b].mapM (closeV H n f) with
      | some a,some b=>some (AV.fn g a b)
      | _,_=>none) = _
  simp only [List.mapM_nil,List.mapM_cons]
  cases closeV H n f a <;> cases closeV H n f b <;> rfl
theorem ClK.close {g:Nat} {L:Loc} {p:Spec} {v:AV} (h:ClK g L p v):∃ v',closeV [] 0 6 v = some v' ∧ ClK g L p v':=by
  obtain ⟨lc,sc,rfl,hl,hs⟩:=h
  obtain ⟨lc',l1,l2⟩:=hl.close [] 0 1
  obtain ⟨sc',s1,s2⟩:=hs.close [] 0 1
  refine ⟨.fn (.func g) [] [.vp lc',.vp sc'],?_,lc',sc',rfl,l2,s2⟩
  rw [closeV_fn2,closeV_vpl,closeV_vpl,l1,s1]

theorem sort1_run (L:Loc) (hok:LocOk L) (p:Spec) (hks:∀ k ∈ p.keys,KeOk k):Fv (ClK 84 L p) fun a b=>decide (0 < orderS L p a b) where
  close:=fun v hv=>ClK.close hv
  run:=fun v hv a b ha hb H=>by
    obtain ⟨lc,sc,rfl,hl,hs⟩:=hv
    rw [V_memsort_Sort_1]
    obtain ⟨lc',l1,l2⟩:=hl.close [] 0 2
    obtain ⟨sc',s1,s2⟩:=hs.close [] 0 2
    obtain ⟨x,c,e,rfl,hx,hc,he⟩:=l2
    obtain ⟨xs,rfl,hxs⟩:=s2
    have hcl:closeV [] 0 6 (.vp lc) = some (.vp (L.cells x c e)):=by rw [closeV_vpl,l1]
    have hcs:closeV [] 0 6 (.vp sc) = some (.vp (p.cells xs)):=by rw [closeV_vpl,s1]
    have ho:=ord_flat (a:=.agg (L.cells x c e)) (L:=L) ⟨x,c,e,rfl,hx,hc,he⟩ hok (q:=.agg (p.cells xs)) (p:=p) ⟨xs,rfl,hxs⟩ hks a b ha hb []
    refine flat4 (a':=.str a) (b':=.str b) rfl rfl hcl hcs (H1:=[]) ?_ rfl
    rw [F_memsort_Sort_1_eq]
    unfold F_memsort_Sort_1
    simp only [go_sem,aload_vpn 6 (L.cells x c e) rfl,aload_vpn 5 (p.cells xs) rfl,ho]

theorem sort2_run (L:Loc) (hok:LocOk L) (p:Spec) (hks:∀ k ∈ p.keys,KeOk k):Fv (ClK 85 L p) fun a b=>lineS L p a b == 0 where
  close:=fun v hv=>ClK.close hv
  run:=fun v hv a b ha hb H=>by
    obtain ⟨lc,sc,rfl,hl,hs⟩:=hv
    rw [V_memsort_Sort_2]
    obtain ⟨lc',l1,l2⟩:=hl.close [] 0 2
    obtain ⟨sc',s1,s2⟩:=hs.close [] 0 2
    obtain ⟨x,c,e,rfl,hx,hc,he⟩:=l2
    obtain ⟨xs,rfl,hxs⟩:=s2
    have hcl:closeV [] 0 6 (.vp lc) = some (.vp (L.cells x c e)):=by rw [closeV_vpl,l1]
    have hcs:closeV [] 0 6 (.vp sc) = some (.vp (p.cells xs)):=by rw [closeV_vpl,s1]
    have ho:=line_flat (a:=.agg (L.cells x c e)) (L:=L) ⟨x,c,e,rfl,hx,hc,he⟩ hok (q:=.agg (p.cells xs)) (p:=p) ⟨xs,rfl,hxs⟩ hks a b ha hb []
    refine flat4 (a':=.str a) (b':=.str b) rfl rfl hcl hcs (H1:=[]) ?_ rfl
    rw [F_memsort_Sort_2_eq]
    unfold F_memsort_Sort_2
    simp only [go_sem,aload_vpn 6 (L.cells x c e) rfl,aload_vpn 5 (p.cells xs) rfl,ho]

def sortS (L:Loc) (p:Spec) (l:List Str):List Str :=
  if (checkS p != 0) = true then l else if p.uniq then onceL (lineS L p) [] (insL (orderS L p) l) else insL (orderS L p) l
theorem ins_msort (L:Loc) (p:Spec) (l:List Str):msortN (orderS L p) l.length l = insL (orderS L p) l:=msort_ins (orderS_cm L p) l (Nat.le_refl _)
theorem ins_facts (L:Loc) (p:Spec) (l:List Str):(insL (orderS L p) l).length = l.length ∧ ∀ s ∈ insL (orderS L p) l,s ∈ l:=by
  rw [← ins_msort]
  exact msort_facts _ _
theorem flat3c {f:List AV → Hp → Res} {a a' b b' c c' v v':AV} {H H1:Hp} (ha:closeV [] 0 6 a = some a') (hb:closeV [] 0 6 b = some b') (hd:closeV [] 0 6 c = some c') (hc:f [a',b',c'] [] = some (v,H1)) (hv:closeV H1 0 6 v = some v'):flatC f [a,b,c] H = some (v',H) :=
  flatC_cl (args':=[a',b',c']) (by simp [ha,hb,hd]) hc hv
theorem sort_flat {a : AV} {L : Loc} (h : LocAV a L) (hok : LocOk L) {q : AV} {p : Spec} (hq : SpecAV q p) (hks : ∀ k ∈ p.keys, KeOk k) {x : AV} {l : List Str} (hx : SS x l) (hL : Lens l) (hl : l.length ≤ 1048576) (H : Hp) :
    ∃ y,flatC C_memsort_Sort [a,q,x] H = some (y,H) ∧ SS y (sortS L p l):=by
  obtain ⟨a1,h1,h2⟩:=h.close [] 0 2
  obtain ⟨q1,g1,g2⟩:=hq.close [] 0 2
  obtain ⟨x1,k1,k2⟩:=SS.closed hx [] 0 4
  have hck:=fun H=>check_flat g2 H
  obtain ⟨lx,c,e,rfl,hlx,hc,he⟩:=h2
  obtain ⟨xp,rfl,hxp⟩:=g2
  suffices hs:∃ y H1,C_memsort_Sort [.agg (L.cells lx c e),.agg (p.cells xp),x1] [] = some (y,H1) ∧ SS y (sortS L p l) by
    obtain ⟨y,H1,r1,r2⟩:=hs
    obtain ⟨y',r3,r4⟩:=SS.closed r2 H1 0 4
    exact ⟨y',flat3c h1 g1 k1 r1 r3,r4⟩
  have hl5:aload true 5 (.ptr 1 0) [AObj.cells (L.cells lx c e),.cells (p.cells xp)] = some (.agg (p.cells xp)):=by simp [aload,Go.Am.apart,Spec.cells]
  rw [F_memsort_Sort_eq]
  unfold F_memsort_Sort sortS
  cases hb:(checkS p != 0) with
  | true =>
    obtain ⟨y,p1,p2⟩:=clone_flat k2 hl [AObj.cells (L.cells lx c e),.cells (p.cells xp)]
    refine ⟨y,[AObj.cells (L.cells lx c e),.cells (p.cells xp)],?_,by rw [if_pos rfl]; exact p2⟩
    simp only [go_sem,abox_agg,List.nil_append,List.length_nil,List.length_cons,List.cons_append,Nat.zero_add,hl5,hck,hb,p1]
  | false =>
    have hfz:∀ (k:AV → Hp → Res),frzK (.ptr 0 0) [AObj.cells (L.cells lx c e),.cells (p.cells xp)] k = k (.vp (L.cells lx c e)) [.dead,.cells (p.cells xp)]:=fun k=>rfl
    have hfz2:∀ (k:AV → Hp → Res),frzK (.ptr 1 0) [AObj.dead,.cells (p.cells xp)] k = k (.vp (p.cells xp)) [.dead,.dead]:=fun k=>rfl
    have hK1:ClK 84 L p (.fn (.func 84) [] [.vp (L.cells lx c e),.vp (p.cells xp)]):=⟨_,_,rfl,⟨lx,c,e,rfl,hlx,hc,he⟩,⟨xp,rfl,hxp⟩⟩
    have hK2:ClK 85 L p (.fn (.func 85) [] [.vp (L.cells lx c e),.vp (p.cells xp)]):=⟨_,_,rfl,⟨lx,c,e,rfl,hlx,hc,he⟩,⟨xp,rfl,hxp⟩⟩
    obtain ⟨y,p1,p2⟩:=msort_flat (sort1_run L hok p hks) l.length l x1 _ (Nat.le_refl _) hl hL k2 hK1 [AObj.dead,.dead]
    rw [ins_msort] at p2
    obtain ⟨f1,f2⟩:=ins_facts L p l
    have hu1:afield 3 (.vp (p.cells xp)) = some (.vp [.bool p.uniq,.bool p.stab]):=rfl
    simp only [go_sem,abox_agg,List.nil_append,List.length_nil,List.length_cons,List.cons_append,Nat.zero_add,hl5,hck,hb,memsort_Sort_J1_eq,hfz,hfz2,p1,hu1,aload_vpc,Bool.false_eq_true,if_false]
    cases hu:p.uniq with
    | true =>
      obtain ⟨z,o1,o2⟩:=once_flat (sort2_run L hok p hks) hK2 p2 (fun s hs=>hL s (f2 s hs)) (by omega) [AObj.dead,.dead]
      exact ⟨z,[.dead,.dead],by simp only [go_sem,o1,memsort_Sort_J2_eq],by simpa using o2⟩
    | false=>exact ⟨y,[.dead,.dead],by simp only [go_sem,memsort_Sort_J2_eq],by simpa using p2⟩

end Go.Am
namespace Go.Am
set_option linter.unusedSimpArgs false
set_option linter.unusedVariables false
set_option linter.unusedSectionVars false
set_option maxRecDepth 100000

theorem defOk:LocOk defL:=⟨by decide,by simp [defL],by simp [defL],by simp [defL],fun c hc=>(by cases hc),fun c hc=>(by cases hc),by simp [defL],by simp [defL]⟩
theorem specP (p:Spec) (h:p.keys = []):SpecAV (.agg (p.cells .nils)) p:=⟨.nils,rfl,.inl ⟨rfl,by rw [h]; rfl⟩⟩
theorem noKeys {p:Spec} (h:p.keys = []):∀ k ∈ p.keys,KeOk k:=fun k hk=>by rw [h] at hk; cases hk
theorem listSS (l:List Str) (t:Tok):SS (.vs 1 t (l.map AV.str)) l:=.inr ⟨t,rfl⟩
theorem sortS_len (L:Loc) (p:Spec) (l:List Str):(sortS L p l).length ≤ l.length:=by
  obtain ⟨f1,f2⟩:=ins_facts L p l
  have:=onceL_len (g:=lineS L p) (insL (orderS L p) l) []
  unfold sortS
  split
  · exact Nat.le_refl _
  · split
    · simp at this; omega
    · omega
end Go.Am
namespace Go.Am
set_option linter.unusedSimpArgs false
set_option linter.unusedVariables false
set_option linter.unusedSectionVars false
set_option maxRecDepth 100000

def validS (s:List UInt8):Bool :=
  match s with
  | []=>false
  | b :: _=>decide (s.length ≤ 16) && !digit b.toNat && s.all fun c=>inName c.toNat
theorem valid_J2_eq (x0 x7 x8 x9 : AV) (H0 H : Hp) : tempfile_valid_J2 x0 x7 x8 x9 H0 H =
    bnd (aindexStr x0 x8) fun t13_9 =>
    bnd (nameD t13_9 x8) fun t45_36 =>
    cnd t45_36 (some ((.bool false),H)) (tempfile_valid_J3 x0 x7 x8 H0 H):=by
  rw [tempfile_valid_J2_eq]; simp only [nameD,bnd_assoc,bnd_some]
theorem valid_J1 (s:List UInt8) (hs:s.length ≤ 4611686018427387904) (H0 H:Hp):tempfile_valid_J1 (.str s) H0 H = some (.bool (!s.isEmpty && decide (s.length ≤ 16)),H):=by
  rw [tempfile_valid_J1_eq]
  cases s with
  | nil=>simp [go_sem,sbin,strbin]
  | cons b l =>
    simp only [sbin,strbin,go_sem,alenD]
    have:(!((b :: l) == ([]:List UInt8))) = true:=rfl
    have c:decide (((b :: l).length:Int) ≤ 16) = decide ((b :: l).length ≤ 16):=by rw [Bool.eq_iff_iff]; simp; omega
    simp only [this,go_sem,c,List.isEmpty_cons,Bool.not_false,Bool.true_and]
theorem valid_loop (s : List UInt8) (hs : s.length ≤ 4611686018427387904) (H0 H : Hp) : ∀ (k i : Nat), s.length - i = k → 0 < i → i ≤ s.length →
    tempfile_valid_L1 (.str s) (.int .i64 s.length) (.int .i64 i) H0 H = some (.bool (((s.drop i).all fun c=>inName c.toNat) && (!s.isEmpty && decide (s.length ≤ 16))),H):=by
  intro k
  induction k with
  | zero =>
    intro i hk h0 hi
    rw [tempfile_valid_L1_eq]
    have hlt:decide ((i:Int) < (s.length:Int)) = false:=by simp; omega
    have hd:s.drop i = []:=List.drop_eq_nil_iff.2 (by omega)
    simp only [go_sem,hlt,valid_J1 s hs,hd,List.all_nil,Bool.true_and]
  | succ k ih =>
    intro i hk h0 hi
    rw [tempfile_valid_L1_eq]
    have hl:i < s.length:=by omega
    have hlt:decide ((i:Int) < (s.length:Int)) = true:=by simp; omega
    have hw:IntKind.i64.wrap ((i:Int) + 1) = ((i + 1:Nat):Int):=by rw [wrap64 (by omega) (by omega)]; omega
    have h0':((i:Int) == 0) = false:=by simp; omega
    simp only [go_sem,hlt,valid_J2_eq,aindexStr_of (List.getElem?_eq_getElem hl),nameD_next _ h0']
    rw [List.drop_eq_getElem_cons hl,List.all_cons]
    cases hb:inName s[i].toNat with
    | false=>simp only [go_sem,Bool.not_false,Bool.false_and]
    | true =>
      simp only [go_sem,Bool.not_true,Bool.true_and,tempfile_valid_J3_eq,hw]
      exact ih (i + 1) (by omega) (by omega) (by omega)
theorem valid_spec (s:List UInt8) (hs:s.length ≤ 4611686018427387904) (H:Hp):C_tempfile_valid [.str s] H = some (.bool (validS s),H):=by
  rw [F_tempfile_valid_eq]
  unfold F_tempfile_valid
  simp only [go_sem,alenD]
  cases s with
  | nil=>rw [tempfile_valid_L1_eq]; simp [go_sem,valid_J1 [] (by simp),validS]
  | cons b l =>
    rw [tempfile_valid_L1_eq]
    have hlt:decide ((0:Int) < ((b :: l).length:Int)) = true:=by simp
    have hw:IntKind.i64.wrap ((0:Int) + 1) = ((0 + 1:Nat):Int):=by decide
    have hidx:aindexStr (.str (b :: l)) (.int .i64 0) = some (.int .u8 b.toNat):=by simp [aindexStr]
    simp only [go_sem,hlt,valid_J2_eq,hidx,nameD_first]
    cases hb:(!inName b.toNat || digit b.toNat) with
    | true =>
      have:validS (b :: l) = false:=by
        unfold validS
        simp only [Bool.or_eq_true,Bool.not_eq_true'] at hb
        rcases hb with hb | hb <;> simp [hb]
      simp only [go_sem,this]
    | false =>
      simp only [Bool.or_eq_false_iff,Bool.not_eq_false'] at hb
      simp only [go_sem,tempfile_valid_J3_eq,hw]
      rw [valid_loop (b :: l) hs H H l.length 1 (by simp) (by omega) (by simp)]
      have:validS (b :: l) = (((b :: l).drop 1).all (fun c=>inName c.toNat) && (!(b :: l).isEmpty && decide ((b :: l).length ≤ 16))):=by
        unfold validS
        simp only [hb.1,hb.2,List.all_cons,List.drop_one,List.tail_cons,List.isEmpty_cons,Bool.not_false,Bool.true_and,Bool.and_true]
        rw [Bool.and_comm]
      rw [this]
theorem ownv_flat (s:Txt) (hs:s.length ≤ 1048576) (H:Hp):flatC C_tempfile_valid [.str s] H = some (.bool (validS s),H) :=
  flat1 (a':=.str s) rfl (H1:=[]) (valid_spec s (by omega) []) rfl
theorem Left_empty {H:Hp} {t:Nat} {s:Sto} {S:List Nat} (h:StoreAt H t s S) (hk:StoOk s) (he:s.files = []) (ow:Txt) (ho:ow.length ≤ 1048576):roC C_tempfile_Left [.ptr t 0,.str ow] H = some (.nils,H):=by
  have hv:=ownv_flat ow ho H
  have hnil:ebin (.pointer 120) .eql (.ptr t 0) .nilp = some (.bool false):=rfl
  refine roC_of (H1:=H) (v:=.nils) ?_ (Keep.refl _ _) (Nat.le_refl _) rfl
  rw [F_tempfile_Left_eq]
  unfold F_tempfile_Left
  cases hvs:validS ow with
  | false =>
    rw [hvs] at hv
    simp only [go_sem,hnil,hv,Bool.not_false]
  | true =>
    rw [hvs] at hv
    obtain ⟨x,q1,q2⟩:=List_ro h hk
    have hx:alenD (.slice 142) x = some (.int .i64 0):=by
      have:=Sl.len q2 142
      rw [he] at this
      exact this
    have hlt:decide ((0:Int) < 0) = false:=rfl
    simp only [go_sem,hnil,hv,Bool.not_true,tempfile_Left_J1_eq,prefix_run ow ho,q1,hx,tempfile_Left_L1_eq,hlt,tempfile_Left_J2_eq]
theorem TOpen_empty {H : Hp} {t : Nat} {s : Sto} {S : List Nat} (h : StoreAt H t s S) (hk : StoOk s) (he : s.files = []) (ow : Txt) (ho : ow.length ≤ 1048576) (hv : validS ow = true) (lim : Int) :
    ∃ H' A',C_tempfile_Open [.ptr t 0,.str ow,.int .i64 lim] H = some (.tuple [.ptr (H.length + 1) 0,.int .i64 0],H') ∧ SysAt H' (H.length + 1) t ⟨ow,[],[],(max 0 lim).toNat,0,false⟩ s A' ∧ Stp S H H' ∧ (∀ a ∈ A',a ∈ S ∨ H.length ≤ a):=by
  have hnil:ebin (.pointer 120) .eql (.ptr t 0) .nilp = some (.bool false):=rfl
  have hvf:=ownv_flat ow ho H
  rw [hv] at hvf
  have hlt:decide ((0:Int) < 0) = false:=rfl
  have hf1:(afill [(0,1,.ptr t 0),(1,1,.str ow),(3,1,.map H.length)] [.nilp,(.str []),.nils,.nilm]).map AV.agg = some (.agg [.ptr t 0,.str ow,.nils,.map H.length]):=rfl
  have hf2:(afill [(0,4,.agg [.ptr t 0,.str ow,.nils,.map H.length]),(4,1,.int .i64 (max 0 lim))] [.nilp,(.str []),.nils,.nilm,(.int .i64 0),(.int .i64 0),(.bool false)]).map AV.agg = some (.agg [.ptr t 0,.str ow,.nils,.map H.length,.int .i64 (max 0 lim),.int .i64 0,.bool false]):=rfl
  have hb:∀ l:List AV,abox (.agg l) (H ++ [.map [] 0]) = some (.ptr (H.length + 1) 0,H ++ [.map [] 0] ++ [.cells l]):=fun l=>by rw [abox_of rfl]; simp [AV.cells]
  have hS:Stp S H (H ++ [AObj.map [] 0] ++ [.cells [.ptr t 0,.str ow,.nils,.map H.length,.int .i64 (max 0 lim),.int .i64 0,.bool false]]):=by rw [List.append_assoc]; exact Stp.push _ _
  have hl:((max 0 lim).toNat:Int) = max 0 lim:=by omega
  refine ⟨H ++ [.map [] 0] ++ [.cells [.ptr t 0,.str ow,.nils,.map H.length,.int .i64 (max 0 lim),.int .i64 0,.bool false]],[H.length + 1,H.length] ++ S,?_,⟨[H.length + 1,H.length],S,⟨H.length,0,.nils,[],⟨?_,.inl ⟨rfl,rfl⟩,?_,rfl,by simp [tokA]⟩,rfl⟩,h.frame fun a ha=>?_,fun a ha hs=>?_,rfl⟩,hS,fun a ha=>?_⟩
  · rw [F_tempfile_Open_eq]
    unfold F_tempfile_Open
    simp only [go_sem,hnil,tempfile_Open_J1_eq,hvf,Bool.not_true,tempfile_Open_J2_eq,Left_empty h hk he ow ho,tempfile_Open_L1_eq,hlt,tempfile_Open_J3_eq,hf1,hf2,hb]
  · simp [hl]
  · simp
  · rw [List.append_assoc,List.getElem?_append_left (h.lt a ha)]
  · have:=h.lt a hs
    simp at ha
    omega
  · simp at ha
    rcases ha with e | e | ha
    · exact .inr (by omega)
    · exact .inr (by omega)
    · exact .inl ha
theorem ROpen_run (o:Nat) (n:Txt) (H:Hp):C_runs_Open [.ptr o 0,.str n] H = some (.ptr H.length 0,H ++ [.cells (rdC o n 0 false false [])]):=by
  have hnil:ebin (.pointer 117) .eql (.ptr o 0) .nilp = some (.bool false):=rfl
  have hf:(afill [(0,1,.ptr o 0),(1,1,.str n)] [.nilp,(.str []),(.int .i64 0),(.bool false),(.bool false),(.str [])]).map AV.agg = some (.agg (rdC o n 0 false false [])):=rfl
  rw [F_runs_Open_eq]
  unfold F_runs_Open
  simp only [go_sem,hnil,runs_Open_J1_eq,hf,abox_agg]
theorem load_locn {H:Hp} {i:Nat} {L:Loc} {x c e:AV} (h:H[i]? = some (.cells (L.cells x c e))):aload true 6 (.ptr i 0) H = some (.agg (L.cells x c e)):=by
  rw [aload_of h]; simp [Go.Am.apart,Loc.cells]
theorem load_specn {H:Hp} {i:Nat} {p:Spec} {x:AV} (h:H[i]? = some (.cells (p.cells x))):aload true 5 (.ptr i 0) H = some (.agg (p.cells x)):=by
  rw [aload_of h]; simp [Go.Am.apart,Spec.cells]
theorem SysRes.trans {H H1 H2:Hp} {o t:Nat} {tm1 tm2:Tmp} {s1 s2:Sto} {A A1 A2:List Nat} (h:SysRes H H1 o t tm1 s1 A A1) (k:SysRes H1 H2 o t tm2 s2 A1 A2):SysRes H H2 o t tm2 s2 A A2 :=
  ⟨k.at',h.stp.trans k.stp (fun _ h=>h) fun a ha=>h.own a ha,fun a ha=>by
    rcases k.own a ha with k1 | k1
    · exact h.own a k1
    · exact .inr (Nat.le_trans h.stp.len k1)⟩
theorem SysRes.pre {H H1 H2:Hp} {o t:Nat} {tm2:Tmp} {s2:Sto} {A A2:List Nat} (h:Stp A H H1) (k:SysRes H1 H2 o t tm2 s2 A A2):SysRes H H2 o t tm2 s2 A A2 :=
  ⟨k.at',h.trans k.stp (fun _ h=>h) fun a ha=>.inl ha,fun a ha=>by
    rcases k.own a ha with k1 | k1
    · exact .inl k1
    · exact .inr (Nat.le_trans h.len k1)⟩
theorem RWrite_ok {H : Hp} {o t : Nat} {tm tm1 tm3 : Tmp} {s s1 s2 s3 : Sto} {A : List Nat} {n : Txt} (h : SysAt H o t tm s A) (hm : TmpOk tm) (hk : StoOk s) (hl1 : tm.last < 1000000) {a q x : AV} {L : Loc} {p : Spec} {l : List Str} (ha : LocAV a L) (hok : LocOk L) (hq : SpecAV q p) (hks : ∀ k ∈ p.keys, KeOk k) (hx : SS x l) (hL : Lens l) (hl : l.length ≤ 1048576)
    (hcost:costR (sortS L p l) ≤ 1048576) (hLs:Lens (sortS L p l))
    (hN:tmNew tm s = ((n,0),(tm1,s1))) (hm1:TmpOk tm1) (hk1:StoOk s1) (hW:tmWrite tm1 s1 n (sortS L p l) = (0,s2)) (hk2:StoOk s2) (hS:tmSeal tm1 s2 n = (0,(tm3,s3))) :
    ∃ H' A',C_runs_Write [.ptr o 0,a,q,x] H = some (.tuple [.str n,.int .i64 0],H') ∧ SysRes H H' o t tm3 s3 A A':=by
  have hav:=ha
  have hqv:=hq
  obtain ⟨lx,lc,le,rfl,hlx,hlc,hle⟩:=ha
  obtain ⟨xp,rfl,hxp⟩:=hq
  have hnil:ebin (.pointer 117) .eql (.ptr o 0) .nilp = some (.bool false):=rfl
  have hAlt:=h.lt
  have g1:(H ++ [AObj.cells (L.cells lx lc le),.cells (p.cells xp)])[H.length]? = some (.cells (L.cells lx lc le)):=by simp
  have g2:(H ++ [AObj.cells (L.cells lx lc le),.cells (p.cells xp)])[H.length + 1]? = some (.cells (p.cells xp)):=by simp
  have hS0:Stp A H (H ++ [AObj.cells (L.cells lx lc le),.cells (p.cells xp)]):=Stp.push _ _
  have hlen0:(H ++ [AObj.cells (L.cells lx lc le),.cells (p.cells xp)]).length = H.length + 2:=by simp
  have hsys0:SysAt (H ++ [AObj.cells (L.cells lx lc le),.cells (p.cells xp)]) o t tm s A:=h.stp (C:=[]) (Stp.push _ _) (fun a ha=>by simp)
  have hbx:abox (.agg (p.cells xp)) (H ++ [AObj.cells (L.cells lx lc le)]) = some (.ptr (H.length + 1) 0,H ++ [AObj.cells (L.cells lx lc le),.cells (p.cells xp)]):=by rw [abox_agg]; simp
  generalize hH0:H ++ [AObj.cells (L.cells lx lc le),.cells (p.cells xp)] = H0 at g1 g2 hS0 hsys0 hbx hlen0
  obtain ⟨H1,A1,p1,p2⟩:=TNew_run hsys0 hm hk hl1
  rw [hN] at p1 p2
  have hnA:∀ i,H.length ≤ i → i ∉ A:=fun i hi ha=>by have:=hAlt i ha; omega
  have g1':=p2.stp.get g1 (hnA _ (Nat.le_refl _))
  have g2':=p2.stp.get g2 (hnA _ (by omega))
  obtain ⟨y,q1,q2⟩:=sort_flat hav hok hqv hks hx hL hl H1
  obtain ⟨H2,A2,r1,r2⟩:=Write_run p2.at' hm1 hk1 n q2 hLs hcost
  rw [hW] at r1 r2
  obtain ⟨H3,A3,t1,t2⟩:=Seal_run r2.at' hm1 hk2 n
  rw [hS] at t1 t2
  refine ⟨H3,A3,?_,SysRes.pre hS0 ((p2.trans r2).trans t2)⟩
  have e0:((0:Int) != 0) = false:=rfl
  rw [F_runs_Write_eq]
  unfold F_runs_Write
  simp only [abox_agg,go_sem,hbx,hnil,runs_Write_J1_eq,p1,List.getElem?_cons_zero,List.getElem?_cons_succ,e0,runs_Write_J2_eq,load_locn g1',load_specn g2',q1,r1,runs_Write_J3_eq,t1,runs_Write_J4_eq]
end Go.Am
namespace Go.Am
set_option linter.unusedSimpArgs false
set_option linter.unusedVariables false
set_option linter.unusedSectionVars false

section
variable {α:Type} (c:α → Int) (mem:Int)
structure Ck (α:Type) where
  done:List (List α)
  cur:List α
  cost:Int
def ckStep (s:Ck α) (x:α):Ck α :=
  if s.cur ≠ [] ∧ mem < s.cost + c x then ⟨s.done ++ [s.cur],[x],c x⟩ else ⟨s.done,s.cur ++ [x],s.cost + c x⟩
def ckRun (l:List α):Ck α:=l.foldl (ckStep c mem) ⟨[],[],0⟩
def ckAll (s:Ck α):List (List α):=if s.cur = [] then s.done else s.done ++ [s.cur]
def costL (l:List α):Int:=l.foldl (fun n x=>n + c x) 0
theorem costL_app (l:List α) (x:α):costL c (l ++ [x]) = costL c l + c x:=by simp [costL]
structure CkOk (l:List α) (s:Ck α):Prop where
  flat:s.done.flatten ++ s.cur = l
  cost:s.cost = costL c s.cur
  emp:s.cur = [] → s.done = []
  ne:∀ k ∈ s.done,k ≠ []
  fit:∀ k ∈ s.done ++ [s.cur],1 < k.length → costL c k ≤ mem
  next:∀ (i:Nat) (a b:List α) (x:α),(s.done ++ [s.cur])[i]? = some a → (s.done ++ [s.cur])[i + 1]? = some b → b.head? = some x → mem < costL c a + c x
theorem ck_start:CkOk c mem ([]:List α) ⟨[],[],0⟩:=by
  refine ⟨rfl,rfl,fun _=>rfl,by simp,by simp,fun i a b x h1 h2 h3=>?_⟩
  simp at h2
theorem ck_step {l:List α} {s:Ck α} (h:CkOk c mem l s) (x:α):CkOk c mem (l ++ [x]) (ckStep c mem s x):=by
  unfold ckStep
  split
  · rename_i hc
    obtain ⟨h1,h2⟩:=hc
    refine ⟨by simp [← h.flat],by simp [costL],fun e=>(by simp at e),fun k hk=>?_,fun k hk hl=>?_,fun i a b y g1 g2 g3=>?_⟩
    · rcases List.mem_append.1 hk with hk | hk
      · exact h.ne k hk
      · rw [List.mem_singleton.1 hk]; exact h1
    · rcases List.mem_append.1 hk with hk | hk
      · exact h.fit k hk hl
      · rw [List.mem_singleton.1 hk] at hl; simp at hl
    · dsimp only at g1 g2
      have hlen:(s.done ++ [s.cur]).length = s.done.length + 1:=by simp
      by_cases hi:i + 1 < (s.done ++ [s.cur]).length
      · rw [List.getElem?_append_left (by omega)] at g1
        rw [List.getElem?_append_left hi] at g2
        exact h.next i a b y g1 g2 g3
      · have hlt:=(List.getElem?_eq_some_iff.1 g2).1
        simp only [List.length_append,List.length_singleton] at hlt hi
        have he:i = s.done.length:=by omega
        subst he
        rw [List.getElem?_append_left (by simp),List.getElem?_append_right (Nat.le_refl _)] at g1
        rw [List.getElem?_append_right (by simp)] at g2
        simp at g1 g2
        subst g1 g2
        simp at g3
        subst g3
        rw [← h.cost]; exact h2
  · rename_i hc
    refine ⟨by rw [← List.append_assoc,h.flat],by rw [costL_app,h.cost],fun e=>(by simp at e),h.ne,fun k hk hl=>?_,fun i a b y g1 g2 g3=>?_⟩
    · rcases List.mem_append.1 hk with hk | hk
      · exact h.fit k (List.mem_append_left _ hk) hl
      · rw [List.mem_singleton.1 hk] at hl ⊢
        have hne:s.cur ≠ []:=fun e=>by rw [e] at hl; simp at hl
        rw [costL_app,← h.cost]
        simp only [ne_eq,hne,not_false_eq_true,true_and] at hc
        omega
    · dsimp only at g1 g2
      by_cases hi:i + 1 < s.done.length
      · rw [List.getElem?_append_left (by omega)] at g1
        rw [List.getElem?_append_left hi] at g2
        exact h.next i a b y (by rw [List.getElem?_append_left (by omega)]; exact g1) (by rw [List.getElem?_append_left hi]; exact g2) g3
      · have hlt:=(List.getElem?_eq_some_iff.1 g2).1
        simp only [List.length_append,List.length_singleton] at hlt hi
        have he:i + 1 = s.done.length:=by omega
        rw [List.getElem?_append_left (by omega)] at g1
        rw [he,List.getElem?_append_right (Nat.le_refl _)] at g2
        simp at g2
        subst g2
        cases hcur:s.cur with
        | nil =>
          have:=h.emp hcur
          rw [this] at he
          simp at he
        | cons z t =>
          rw [hcur] at g3
          simp at g3
          subst g3
          exact h.next i a s.cur z (by rw [List.getElem?_append_left (by omega)]; exact g1) (by rw [he,List.getElem?_append_right (Nat.le_refl _)]; simp) (by rw [hcur]; rfl)
theorem ck_run (l:List α):CkOk c mem l (ckRun c mem l):=by
  have:∀ (r d:List α) (s:Ck α),CkOk c mem d s → CkOk c mem (d ++ r) (r.foldl (ckStep c mem) s):=by
    intro r
    induction r with
    | nil=>intro d s h; simpa using h
    | cons x r ih =>
      intro d s h
      have:=ih (d ++ [x]) _ (ck_step c mem h x)
      simpa using this
  have h:=this l [] _ (ck_start c mem)
  simpa [ckRun] using h
theorem ckRun_snoc (l:List α) (x:α):ckRun c mem (l ++ [x]) = ckStep c mem (ckRun c mem l) x:=by simp [ckRun]
theorem ckStep_ne (s:Ck α) (x:α):(ckStep c mem s x).cur ≠ []:=by unfold ckStep; split <;> simp
theorem ck_cur {l:List α} (h:l ≠ []):(ckRun c mem l).cur ≠ []:=by
  obtain ⟨x,l',rfl⟩:∃ x l',l = l' ++ [x]:=⟨l.getLast h,l.dropLast,(List.dropLast_concat_getLast h).symm⟩
  rw [ckRun_snoc]; exact ckStep_ne c mem _ x
end

def cnt (w i:Nat):Nat:=(i + w - 1) / w
end Go.Am
