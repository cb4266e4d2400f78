/-
  A part of a proof about the given program; what is proved is said where each theorem stands.
-/
import Derived.Lib.ItoaLen
import Derived.KernelRfl
import Derived.Test.YtiejbbcpihpgpaaGreatProg
import Derived.Test.YtiejbbcpihpgpaaGreatFrameA
import Derived.Test.YtiejbbcpihpgpaaGreatFrameB
import Derived.Test.YtiejbbcpihpgpaaGreatFrameC
import Derived.Test.YtiejbbcpihpgpaaGreatFrameD
set_option linter.unusedVariables false
namespace Go.Proofs.YtiejbbcpihpgpaaGreat.Ab
open Go.Proofs
noncomputable abbrev PP:Program:=Tryz.prog
def GG:GV:=fun _=>none
noncomputable abbrev QQ:Program:={ toTables:=Tryz.progTables,funcs:=#[] }
def CF:Cfg:=[(9,[],[],[(.box 3)]),
 (10,[(.box 3),.borrow,.borrow],[some (.box 3),none,none],[]),
 (11,[(.box 3),.borrow],[some (.box 3),none],[]),
 (20,[(.box 3),.give],[some (.box 3),none],[]),
 (21,[(.box 3),.borrow],[some (.box 3),none],[]),
 (22,[(.box 3),.give],[some (.box 3),none],[]),
 (23,[(.box 3),.borrow],[some (.box 3),none],[]),
 (24,[(.box 3)],[some (.box 3)],[]),
 (26,[(.box 3),.lend],[some (.box 3),some .give],[]),
 (27,[(.box 3),.borrow],[some (.box 3),none],[]),
 (28,[(.box 3),.lend],[some (.box 3),some .give],[]),
 (29,[(.box 3)],[some (.box 3)],[]),
 (31,[(.box 3)],[some (.box 3)],[]),
 (36,[(.box 3)],[some (.box 3)],[]),
 (40,[(.box 3)],[some (.box 3)],[]),
 (71,[.give,.lend],[none,some .give],[]),
 (92,[],[],[.borrow,.give]),
 (93,[],[],[.borrow]),
 (98,[],[],[.borrow,.give,.give]),
 (100,[.borrow,.borrow,.give],[],[.borrow,.give]),
 (103,[],[],[.borrow]),
 (131,[.borrow,.borrow,.give,.borrow],[],[.borrow,.give])]
def CM:List (Nat×List dW):=[(10,[(.box 3),.borrow,.borrow]),(11,[(.box 3),.borrow]),(20,[(.box 3),.give]),(21,[(.box 3),.borrow]),(22,[(.box 3),.give]),(23,[(.box 3),.borrow]),(24,[(.box 3)]),(26,[(.box 3),.lend]),(27,[(.box 3),.borrow]),(28,[(.box 3),.lend]),(29,[(.box 3)]),(30,[.give,.borrow]),(31,[(.box 3)]),(36,[(.box 3)]),(40,[(.box 3)]),(41,[.give,.borrow]),(43,[.give,.borrow]),(45,[.borrow,.give]),(62,[.give,.borrow,.give]),(64,[.give,.borrow]),(71,[.give,.lend]),(90,[.give,.borrow]),(94,[.give,.borrow]),(100,[.borrow,.borrow,.give]),(121,[.give,.borrow]),(131,[.borrow,.borrow,.give,.borrow])]
theorem cv {f:FuncId} {fn:Func} {om:List (Option dW)} {vl:List Nat} {rs:List (dW×Nat×Option (Bool×Nat))} {x y c:aH} {vm gs:Nat} {ls:Option Sk} {cs:List C} {r:C} {os:List (Option C)} (hf:PP.funcs[f]?=some fn) (rcs:List C)
  (hW:W PP vl (fn.ntmps,kH 0 om) (aE PP GG) c (qA cs) (Fin (aE PP GG) rs om rcs os) (fun _ _=>False) (Fin (aE PP GG) rs om rcs os))
  (h1:aQ9 QQ CF f fn=(om,rs)->True:=by intro h;(conv at h=>lhs;cbv);have t:type_of% h:=rfl;clear t;trivial) (h2:aQ8 QQ om fn=x->True:=by intro h;(conv at h=>lhs;cbv);have t:type_of% h:=rfl;clear t;trivial)
  (h3:aQ7 x (fn.params.size+fn.nfree) fn.ntmps fn.results.toList=(vm,gs,vl)->True:=by intro h;(conv at h=>lhs;cbv);have t:type_of% h:=rfl;clear t;trivial) (h4:aQ6 CM x vm gs=y->True:=by intro h;(conv at h=>lhs;cbv);have t:type_of% h:=rfl;clear t;trivial)
  (h5:aQ5 y vm fn.ntmps om fn.results.toList=ls->True:=by intro h;(conv at h=>lhs;cbv);have t:type_of% h:=rfl;clear t;trivial) (h5b:aQ4 fn.ntmps y ls=c->True:=by intro h;(conv at h=>lhs;cbv);have t:type_of% h:=rfl;clear t;trivial) (h6:aKq PP vl om rs fn cs.length rcs.length=true:=by kernel_rfl)
  (h7:qB PP (fn.ntmps,kH 0 om) vl (fn.body.getD .skip)=some c.erase:=by kernel_rfl) (h8:uN rcs=r:=by rfl):aE PP GG f cs r os:=cvM hf rcs h6 h7 h8 hW
theorem cvD {α:Type} {f:FuncId} {fn:Func} {om:List (Option dW)} {vl:List Nat} {rs:List (dW×Nat×Option (Bool×Nat))} {x y c:aH} {vm gs:Nat} {ls:Option Sk} {cs:List C} (hf:PP.funcs[f]?=some fn) (nr:Nat) (R:α->Prop) (rc:α->List C) (oc:α->List (Option C)) (hn:∀ a,(rc a).length=nr)
  (hW:Dt PP vl (fn.ntmps,kH 0 om) (aE PP GG) c (qA cs) (fun st=>∃ a,R a/\Fin (aE PP GG) rs om (rc a) (oc a) st) (fun _ _=>False) (fun st=>∃ a,R a/\Fin (aE PP GG) rs om (rc a) (oc a) st))
  (h1:aQ9 QQ CF f fn=(om,rs)->True:=by intro h;(conv at h=>lhs;cbv);have t:type_of% h:=rfl;clear t;trivial) (h2:aQ8 QQ om fn=x->True:=by intro h;(conv at h=>lhs;cbv);have t:type_of% h:=rfl;clear t;trivial)
  (h3:aQ7 x (fn.params.size+fn.nfree) fn.ntmps fn.results.toList=(vm,gs,vl)->True:=by intro h;(conv at h=>lhs;cbv);have t:type_of% h:=rfl;clear t;trivial) (h4:aQ6 CM x vm gs=y->True:=by intro h;(conv at h=>lhs;cbv);have t:type_of% h:=rfl;clear t;trivial)
  (h5:aQ5 y vm fn.ntmps om fn.results.toList=ls->True:=by intro h;(conv at h=>lhs;cbv);have t:type_of% h:=rfl;clear t;trivial) (h5b:aQ4 fn.ntmps y ls=c->True:=by intro h;(conv at h=>lhs;cbv);have t:type_of% h:=rfl;clear t;trivial) (h6:aKq PP vl om rs fn cs.length nr=true:=by kernel_rfl)
  (h7:qB PP (fn.ntmps,kH 0 om) vl (fn.body.getD .skip)=some c.erase:=by kernel_rfl):∃ a,R a/\aE PP GG f cs (uN (rc a)) (oc a):=aSD hf nr R rc oc hn h6 h7 hW
end Go.Proofs.YtiejbbcpihpgpaaGreat.Ab
