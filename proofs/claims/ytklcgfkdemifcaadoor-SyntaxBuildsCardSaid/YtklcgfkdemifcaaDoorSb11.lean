/-
  Laws of walks, and walks.
-/
import Derived.Test.YtklcgfkdemifcaaDoorSb3
set_option linter.unusedVariables false
set_option linter.unusedSimpArgs false
set_option maxRecDepth 100000
set_option maxHeartbeats 16000000
namespace Go.Proofs.YtklcgfkdemifcaaDoor
section
open Go.RowKit Go.Shelf
attribute [local go_sem] Oper.semAt_some
theorem zOw {L:Str} {f j:Nat} {op:Bool} {d:WordD} (h1:j<L.length) (h2:byt L j=105):zAS L (f+1) j false op d=zAS L f (j+1) false true {d with on:=(true,d.on.2.1,d.on.2.2)}:=by
 rw[zAS,if_pos h1];simp[h2]
theorem zPU {L:Str} {f j:Nat} {op:Bool} {d:WordD} (h1:j<L.length) (h2:byt L j=105):zAS L (f+1) j true op d=zAS L f (j+1) true true {d with off:=(true,d.off.2.1,d.off.2.2)}:=by
 rw[zAS,if_pos h1];simp[h2]
theorem zPf {L:Str} {f j:Nat} {op:Bool} {d:WordD} (h1:j<L.length) (h2:byt L j=109):zAS L (f+1) j false op d=zAS L f (j+1) false true {d with on:=(d.on.1,true,d.on.2.2)}:=by
 rw[zAS,if_pos h1];simp[h2]
theorem zO4 {L:Str} {f j:Nat} {op:Bool} {d:WordD} (h1:j<L.length) (h2:byt L j=109):zAS L (f+1) j true op d=zAS L f (j+1) true true {d with off:=(d.off.1,true,d.off.2.2)}:=by
 rw[zAS,if_pos h1];simp[h2]
theorem zO2 {L:Str} {f j:Nat} {op:Bool} {d:WordD} (h1:j<L.length) (h2:byt L j=115):zAS L (f+1) j false op d=zAS L f (j+1) false true {d with on:=(d.on.1,d.on.2.1,true)}:=by
 rw[zAS,if_pos h1];simp[h2]
theorem zPL {L:Str} {f j:Nat} {op:Bool} {d:WordD} (h1:j<L.length) (h2:byt L j=115):zAS L (f+1) j true op d=zAS L f (j+1) true true {d with off:=(d.off.1,d.off.2.1,true)}:=by
 rw[zAS,if_pos h1];simp[h2]
theorem zQV {L:Str} {f j:Nat} {op:Bool} {d:WordD} (h1:j<L.length) (h2:byt L j=45):zAS L (f+1) j false op d=zAS L f (j+1) true false d:=by
 rw[zAS,if_pos h1];simp[h2]
theorem zQO {L:Str} {f j:Nat} {op:Bool} {d:WordD} (h1:j<L.length) (h2:byt L j=45):zAS L (f+1) j true op d=none:=by
 rw[zAS,if_pos h1];simp[h2]
theorem zOj {L:Str} {f j:Nat} {off:Bool} {d:WordD} (h1:j<L.length) (h2:byt L j=58):zAS L (f+1) j off true d=some ({d with kind:=7},j+1):=by
 rw[zAS,if_pos h1];simp[h2]
theorem zOn {L:Str} {f j:Nat} {off:Bool} {d:WordD} (h1:j<L.length) (h2:byt L j=58):zAS L (f+1) j off false d=none:=by
 rw[zAS,if_pos h1];simp[h2]
theorem zOo {L:Str} {f j:Nat} {off:Bool} {d:WordD} (h1:j<L.length) (h2:byt L j=41):zAS L (f+1) j off true d=some ({d with kind:=8},j+1):=by
 rw[zAS,if_pos h1];simp[h2]
theorem zOk {L:Str} {f j:Nat} {off:Bool} {d:WordD} (h1:j<L.length) (h2:byt L j=41):zAS L (f+1) j off false d=none:=by
 rw[zAS,if_pos h1];simp[h2]
theorem zP2 {L:Str} {f j:Nat} {off op:Bool} {d:WordD} (h1:j<L.length) (h2:byt L j≠105) (h3:byt L j≠109) (h4:byt L j≠115) (h5:byt L j≠45) (h6:byt L j≠58) (h7:byt L j≠41):zAS L (f+1) j off op d=none:=by
 rw[zAS,if_pos h1];simp[h2,h3,h4,h5,h6,h7]
theorem zQH {L:Str} {f j:Nat} {off op:Bool} {d:WordD} (h1:¬ j<L.length):zAS L (f+1) j off op d=none:=by
 rw[zAS,if_neg h1]
end
end Go.Proofs.YtklcgfkdemifcaaDoor
