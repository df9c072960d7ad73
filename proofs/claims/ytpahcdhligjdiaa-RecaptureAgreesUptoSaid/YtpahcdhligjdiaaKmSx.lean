/-
  THE ABSTRACT MACHINE, part S: code told piece by piece.
-/
import Derived.Test.YtpahcdhligjdiaaKmRx
namespace Go.Am
open RowKit

def cutAt (cut:List Nat) (b:Code):Bool :=
 match firstRegion b with
 | some r=>cut.contains r
 | none=>false
noncomputable def CXM (C:Cfg) (CL:CallF) (LP:Code→KL→AL→Hp→Res) (kp:Nat→Option (List Nat)) (n:Nat) (sq:SQ) (bl:BL) (self:Code→KL→AL→Hp→Res) (cut:List Nat):Code→KL→AL→Hp→Res
 | .skip,k,al,H=>k .normal al H
 | .region id ops draw,k,al,H=>if draw && !(orderOk ops && farKept C ops) then none else frzO n (kp (id+1000000)) (regF C CL n ops draw (fun al' H'=>k .normal al' H')) al H
 | .seq a b, k, al, H => CXM C CL LP kp n sq bl self cut a (sq (match cutAt cut b with
     | true=>fun k' al' H'=>self b k' (trimL kp b al') H'
     | false=>fun k' al' H'=>CXM C CL LP kp n sq bl self cut b k' (trimL kp b al') H') k) al H
 | .cond c x y,k,al,H=>cnd (evalL C n al c) (CXM C CL LP kp n sq bl self cut x k al H) (CXM C CL LP kp n sq bl self cut y k al H)
 | .block id c,k,al,H=>CXM C CL LP kp n sq bl self cut c (bl id k) al H
 | .loop c,k,al,H=>LP c k (trimL kp c al) H
 | .scope c,k,al,H=>if noGoto c then CXM C CL LP kp n sq bl self cut c k al H else none
 | .exit id,k,al,H=>k (.exit id) al H
 | .label _,k,al,H=>k .normal al H
 | .goto l,k,al,H=>k (.goto l) al H
 | .ret,k,al,H=>k .ret al H
 | _,_,_,_=>none

theorem CXM_eq {C : Cfg} {CL : CallF} {LP : Code → KL → AL → Hp → Res} {kp : Nat → Option (List Nat)} {n : Nat} {sq : SQ} {bl : BL} (cut : List Nat) : ∀ (c : Code) (k : KL) (al : AL) (H : Hp),
    CXL C CL LP kp n sq bl c k al H=CXM C CL LP kp n sq bl (CXL C CL LP kp n sq bl) cut c k al H:=by
 intro c
 induction c with
 | seq a b iha ihb =>
  intro k al H
  simp only [CXL,CXM]
  rw [iha]
  congr 1
  congr 1
  cases cutAt cut b with
  | true=>rfl
  | false =>
   funext k' al' H'
   exact ihb _ _ _
 | cond c x y ihx ihy=>intro k al H;simp only [CXL,CXM];rw [ihx,ihy]
 | block id c ih=>intro k al H;simp only [CXL,CXM];exact ih _ _ _
 | scope c ih=>intro k al H;simp only [CXL,CXM];rw [ih]
 | _=>intro k al H;rfl

section
variable {C:Cfg} {kp:Nat→Option (List Nat)} {n:Nat}
theorem LPL_eqm {c : Code} {kL : KL} (cut : List Nat) (h : Tame n kL) (al : AL) (H : Hp) : LPL C kp n c kL al H =
    CXM C (callw C) (LPL C kp n) kp n seqL blockL (CXL C (callw C) (LPL C kp n) kp n seqL blockL) cut c (seqL (fun k' al' H'=>LPL C kp n c k' (trimL kp c al') H') kL) (trimL kp c al) H:=by
 rw [← CXM_eq]
 exact LPL_eq h al H
theorem callw_cxm {f : FuncId} {fn : Func} {c : Code} (cut : List Nat) (hf : C.P.funcs[f]? = some fn) (hb : codeOf C f fn = some c) (hN : fn.ntmps = n) (args : List AV) (hn : Nat.ble args.length n = true) (H : Hp) :
    callw C f args H=CXM C (callw C) (LPL C (C.keep f) n) (C.keep f) n seqL blockL (CXL C (callw C) (LPL C (C.keep f) n) (C.keep f) n seqL blockL) cut c (retL C n f fn H) (argsL 0 args) H:=by
 rw [← CXM_eq]
 exact callw_cxl hf hb hN args hn H
end
end Go.Am
