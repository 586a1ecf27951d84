/-
  Laws of walks, and walks.
-/
import Derived.Test.YtklcgfkdemifcaaGreatDoorSw2
set_option linter.unusedVariables false
set_option linter.unusedSimpArgs false
set_option maxRecDepth 100000
set_option maxHeartbeats 16000000
namespace Go.Proofs.YtklcgfkdemifcaaGreatDoor
section
open Go.RowKit
def zA3:Nat→Nat:=zAV 48 10
def zCU:Nat→Nat:=zAV 97 26
def zCV:Nat→Nat:=zAV 65 26
def zAx:Nat→Nat:=zAs [zA3,zCU,zCV]
def zCl:Nat→Nat:=zAV 33 94
def zDQ:Nat→Nat:=zAs [zAx,ofS [95]]
def zC3:Nat→Nat:=ofS [9,10,12,13,32]
def namesL:List (Str × (Nat→Nat)) :=
 [([97,108,110,117,109],zAx),([97,108,112,104,97],zAs [zCU,zCV]),([97,115,99,105,105],zAV 0 128),([98,108,97,110,107],ofS [9,32]),
  ([99,110,116,114,108],zAs [zAV 0 32,ofS [127]]),([100,105,103,105,116],zA3),([103,114,97,112,104],zCl),([108,111,119,101,114],zCU),
  ([112,114,105,110,116],zAV 32 95),([112,117,110,99,116],zGR [zCl,notS zAx]),([115,112,97,99,101],zAs [zAV 9 5,ofS [32]]),([117,112,112,101,114],zCV),
  ([119,111,114,100],zDQ),([120,100,105,103,105,116],zAs [zA3,zAV 97 6,zAV 65 6])]
def zCw (n:Str):Option (Nat→Nat):=(namesL.find? (fun p=>n == p.1)).map (·.2)
def sortsL:List (Nat × (Nat→Nat)):=[(100,zA3),(119,zDQ),(115,zC3),(68,notS zA3),(87,notS zDQ),(83,notS zC3)]
def zCg (c:Nat):Option (Nat→Nat):=(sortsL.find? (fun p=>c == p.1)).map (·.2)
def hexP (c:Nat):Option Nat:=if 48≤c∧c≤57 then some (c - 48) else if 97≤c∧c≤102 then some (c - 87) else if 65≤c∧c≤70 then some (c - 55) else none
def zFZ (c:Nat):Option Nat:=if c=110 then some 10 else if c=116 then some 9 else if c=114 then some 13 else if c=102 then some 12 else if c=118 then some 11 else if c=97 then some 7 else none
def escP (L:Str) (i:Nat):Option (Nat × Nat) :=
 if i+1<L.length then
  match zFZ (byt L (i+1)) with
  | some b=>some (b,i+2)
  | none =>
   if byt L (i+1)=120 then
    if i+2<L.length then
     match hexP (byt L (i+2)) with
     | none=>none
     | some h =>
      if i+3<L.length then
       match hexP (byt L (i+3)) with
       | none=>none
       | some g=>some (16 * h+g,i+4)
      else none
    else none
   else if 128≤byt L (i+1) then none
   else if hasB zAx (byt L (i+1)) then none
   else some (byt L (i+1),i+2)
 else none
def zCv (L:Str) (i:Nat):Option (Nat × Nat) :=
 if i<L.length then (if byt L i=92 then escP L i else some (byt L i,i+1)) else none
def atP (L:Str) (i:Nat) (t:Str):Bool:=t.isPrefixOf (L.drop i)
def zD7 (t:Str):Str→Option Nat
 | []=>if t.isPrefixOf [] then some 0 else none
 | c::l=>if t.isPrefixOf (c::l) then some 0 else (zD7 t l).map (·+1)
def zEZ (L:Str) (i:Nat):Option (Option ((Nat→Nat) × Nat)) :=
 if atP L i [91,58] then
  match zD7 [58,93] (L.drop (i+2)) with
  | none=>none
  | some k =>
   let name:=(L.drop (i+2)).take k
   let neg:=atP name 0 [94]
   match zCw (if neg then name.drop 1 else name) with
   | none=>some none
   | some s=>some (some (if neg then notS s else s,i+2+k+2))
 else none
def zDC (L:Str) (i:Nat):Option ((Nat→Nat) × Nat) :=
 match zCv L i with
 | none=>none
 | some (lo,k) =>
  if k+1<L.length∧byt L k=45∧byt L (k+1)≠93 then
   match zCv L (k+1) with
   | none=>none
   | some (hi,e)=>if lo≤hi then some (zAV lo (hi+1 - lo),e) else none
  else some (ofS [(lo:Int)],k)
def zDj (L:Str) (i:Nat):Option ((Nat→Nat) × Nat) :=
 match zEZ L i with
 | some r=>r
 | none =>
  match (if byt L i=92∧i+1<L.length then zCg (byt L (i+1)) else none) with
  | some s=>some (s,i+2)
  | none=>zDC L i
def zAv (L:Str):Nat→Nat→Bool→(Nat→Nat)→Option ((Nat→Nat) × Nat)
 | 0,_,_,_=>none
 | f+1,k,first,S =>
  if first=false∧atP L k [93]=true then some (S,k+1)
  else match zDj L k with
   | none=>none
   | some (t,e)=>zAv L f e false (zAs [S,t])
structure WordD where
 kind:Nat
 place:Nat
 set:Nat→Nat:=zAC
 neg:Bool:=false
 spot:Nat:=0
 lo:Int:=0
 hi:Int:=0
 lazy:Bool:=false
 on:Bool × Bool × Bool:=(false,false,false)
 off:Bool × Bool × Bool:=(false,false,false)
def zAY (w:WordD):Array Value:=#[.int .i64 w.kind,.int .i64 w.place,.int .u64 (w.set 0),.int .u64 (w.set 1),.int .u64 (w.set 2),.int .u64 (w.set 3),.bool w.neg,.int .i64 w.spot,.int .i64 w.lo,.int .i64 w.hi,.bool w.lazy,
 .bool w.on.1,.bool w.on.2.1,.bool w.on.2.2,.bool w.off.1,.bool w.off.2.1,.bool w.off.2.2]
abbrev zAd (w:WordD):Value:=.agg (zAY w)
theorem wg0 (w:WordD):(zAY w)[0]?=some (.int .i64 w.kind):=rfl
theorem wg1 (w:WordD):(zAY w)[1]?=some (.int .i64 w.place):=rfl
theorem wg6 (w:WordD):(zAY w)[6]?=some (.bool w.neg):=rfl
theorem wg7 (w:WordD):(zAY w)[7]?=some (.int .i64 w.spot):=rfl
theorem wg8 (w:WordD):(zAY w)[8]?=some (.int .i64 w.lo):=rfl
theorem wg9 (w:WordD):(zAY w)[9]?=some (.int .i64 w.hi):=rfl
theorem wg10 (w:WordD):(zAY w)[10]?=some (.bool w.lazy):=rfl
theorem wg11 (w:WordD):(zAY w)[11]?=some (.bool w.on.1):=rfl
theorem wg12 (w:WordD):(zAY w)[12]?=some (.bool w.on.2.1):=rfl
theorem wg13 (w:WordD):(zAY w)[13]?=some (.bool w.on.2.2):=rfl
theorem wg14 (w:WordD):(zAY w)[14]?=some (.bool w.off.1):=rfl
theorem wg15 (w:WordD):(zAY w)[15]?=some (.bool w.off.2.1):=rfl
theorem wg16 (w:WordD):(zAY w)[16]?=some (.bool w.off.2.2):=rfl
def zBO (L:Str) (i:Nat):Option (WordD × Nat) :=
 let neg:=atP L (i+1) [94]
 (zAv L (L.length+1) (if neg then i+2 else i+1) true zAC).map (fun (S,e)=>({kind:=1,place:=i,set:=S,neg:=neg},e))
def zAT (L:Str):Nat→Nat→Bool→Bool→WordD→Option (WordD × Nat)
 | 0,_,_,_,_=>none
 | f+1,k,off,opn,w =>
  if k<L.length then
   let c:=byt L k
   if c=105 then zAT L f (k+1) off true (if off then {w with off:=(true,w.off.2.1,w.off.2.2)} else {w with on:=(true,w.on.2.1,w.on.2.2)})
   else if c=109 then zAT L f (k+1) off true (if off then {w with off:=(w.off.1,true,w.off.2.2)} else {w with on:=(w.on.1,true,w.on.2.2)})
   else if c=115 then zAT L f (k+1) off true (if off then {w with off:=(w.off.1,w.off.2.1,true)} else {w with on:=(w.on.1,w.on.2.1,true)})
   else if c=45 then (if off then none else zAT L f (k+1) true false w)
   else if c=58 then (if opn then some ({w with kind:=7},k+1) else none)
   else if c=41 then (if opn then some ({w with kind:=8},k+1) else none)
   else none
  else none
def zAy (L:Str) (i:Nat):Option (WordD × Nat):=zAT L (L.length+1) (i+2) false true {kind:=0,place:=i}
def zA5 (c:UInt8):Bool:=decide (48≤c.toNat)&&decide (c.toNat≤57)
def numF (l:Str):Nat:=l.foldl (fun n c=>min (10 * n+(c.toNat - 48)) 101) 0
def zCX (L:Str) (i:Nat):Option (Nat × Nat) :=
 let ds:=(L.drop i).takeWhile zA5
 if ds=[]∨1<ds.length∧byt L i=48 then none else some (numF ds,i+ds.length)
def zBI (L:Str) (i:Nat):Option (Nat × Int × Nat) :=
 match zCX L (i+1) with
 | none=>none
 | some (n,k) =>
  if atP L k [44,125] then some (n,-1,k+2)
  else if atP L k [44] then
   match zCX L (k+1) with
   | none=>none
   | some (m,e)=>if atP L e [125] then some (n,m,e+1) else none
  else if atP L k [125] then some (n,n,k+1) else none
def zAZ (L:Str) (i:Nat) (lo hi:Int) (e:Nat):Except Nat (WordD × Nat) :=
 if 100<lo∨100<hi∨(0≤hi∧hi<lo) then .error 6
 else if atP L e [63] then .ok ({kind:=11,place:=i,lo:=lo,hi:=hi,lazy:=true},e+1)
 else .ok ({kind:=11,place:=i,lo:=lo,hi:=hi},e)
def zFI (c:Nat):Option Nat:=if c=98 then some 12 else if c=66 then some 13 else if c=65 then some 8 else if c=122 then some 9 else none
def zBH (L:Str) (i:Nat):Option (WordD × Nat) :=
 match (if i+1<L.length then zCg (byt L (i+1)) else none) with
 | some s=>some ({kind:=1,place:=i,set:=s},i+2)
 | none =>
  match (if i+1<L.length then zFI (byt L (i+1)) else none) with
  | some k=>some ({kind:=5,place:=i,spot:=k},i+2)
  | none=>(escP L i).map (fun (b,e)=>({kind:=1,place:=i,set:=ofS [(b:Int)]},e))
def zBi {α:Type}:Option α→Except Nat α
 | some a=>.ok a
 | none=>.error 4
def zGQ (c:Nat):Option Nat:=if c=46 then some 2 else if c=94 then some 3 else if c=36 then some 4 else if c=41 then some 9 else if c=124 then some 10 else none
def zAq (L:Str) (i:Nat):Except Nat (WordD × Nat) :=
 let c:=byt L i
 if c=92 then zBi (zBH L i)
 else if c=91 then zBi (zBO L i)
 else if c=40 then (if atP L (i+1) [63] then zBi (zAy L i) else .ok ({kind:=6,place:=i},i+1))
 else if c=123 then
  match zBI L i with
  | some (lo,hi,e)=>zAZ L i lo hi e
  | none=>.ok ({kind:=1,place:=i,set:=ofS [123]},i+1)
 else if c=42 then zAZ L i 0 (-1) (i+1)
 else if c=43 then zAZ L i 1 (-1) (i+1)
 else if c=63 then zAZ L i 0 1 (i+1)
 else match zGQ c with
  | some k=>.ok ({kind:=k,place:=i},i+1)
  | none=>.ok ({kind:=1,place:=i,set:=ofS [(c:Int)]},i+1)
def zA9 (L:Str):Nat→Nat→Except (Nat × Nat) (List WordD)
 | 0,i=>if i<L.length then .error (i,0) else .ok []
 | f+1,i =>
  if i<L.length then
   match zAq L i with
   | .error e=>.error (i,e)
   | .ok (w,j) =>
    match zA9 L f j with
    | .error x=>.error x
    | .ok l=>.ok (w::l)
  else .ok []
def zEm (L:Str):Except (Nat × Nat) (List WordD):=zA9 L L.length 0
theorem zCJ:zAf zA3:=zBb _
theorem zDd:zAf zCU:=zBb _
theorem zDh:zAf zCV:=zBb _
theorem zEj:zAf zCl:=zBb _
theorem ok2 {s t:Nat→Nat} (hs:zAf s) (ht:zAf t):∀ x ∈ [s,t],zAf x:=by intro x hx;simp at hx;rcases hx with rfl|rfl<;>assumption
theorem ok3 {s t u:Nat→Nat} (hs:zAf s) (ht:zAf t) (hu:zAf u):∀ x ∈ [s,t,u],zAf x:=by intro x hx;simp at hx;rcases hx with rfl|rfl|rfl<;>assumption
theorem zCa:zAf zAx:=zBX (ok3 zCJ zDd zDh)
theorem zFS:zAf zDQ:=zBX (ok2 zCa (zBb _))
theorem zBf (lo n:Nat):zAf (zAV lo n):=zBb _
theorem zO9:∀ p ∈ namesL,zAf p.2:=by
 intro p hp;simp only[namesL,List.mem_cons,List.not_mem_nil,or_false]at hp;rcases hp with rfl|rfl|rfl|rfl|rfl|rfl|rfl|rfl|rfl|rfl|rfl|rfl|rfl|rfl
 ·exact zCa
 ·exact zBX (ok2 zDd zDh)
 ·exact zBf _ _
 ·exact zBb _
 ·exact zBX (ok2 (zBf _ _) (zBb _))
 ·exact zCJ
 ·exact zEj
 ·exact zDd
 ·exact zBf _ _
 ·exact zKJ (ok2 zEj (zES _))
 ·exact zBX (ok2 (zBf _ _) (zBb _))
 ·exact zDh
 ·exact zFS
 ·exact zBX (ok3 zCJ (zBf _ _) (zBf _ _))
theorem zGy {n:Str} {s:Nat→Nat} (h:zCw n=some s):zAf s:=by
 unfold zCw at h;obtain⟨p,hp,rfl⟩:=Option.map_eq_some_iff.1 h;exact zO9 p (List.mem_of_find?_eq_some hp)
theorem zKU {c:Nat} {s:Nat→Nat} (h:zCg c=some s):zAf s:=by
 unfold zCg at h;obtain⟨p,hp,rfl⟩:=Option.map_eq_some_iff.1 h;have:=List.mem_of_find?_eq_some hp;simp only[sortsL,List.mem_cons,List.not_mem_nil,or_false]at this;rcases this with rfl|rfl|rfl|rfl|rfl|rfl
 ·exact zCJ
 ·exact zFS
 ·exact zBb _
 ·exact zES _
 ·exact zES _
 ·exact zES _
theorem zMb {L t:Str} {i:Nat} (h:L.length<i+t.length) (ht:t≠[]):atP L i t=false:=by
 unfold atP;rw[Bool.eq_false_iff];intro hc;have:=List.IsPrefix.length_le (List.isPrefixOf_iff_prefix.1 hc);simp at this;have:0<t.length:=List.length_pos_iff.2 ht;omega
theorem zPY {L t:Str} {i:Nat} (h:i+t.length≤L.length):((L.take (i+t.length)).drop i == t)=atP L i t:=by
 unfold atP;have e:(L.take (i+t.length)).drop i=(L.drop i).take t.length:=by rw[List.drop_take];congr 1;omega
 rw[e,Bool.eq_iff_iff,beq_iff_eq,List.isPrefixOf_iff_prefix,List.prefix_iff_eq_take,eq_comm]
def fnd (L:Str) (k:Nat) (t:Str):Option Nat:=(zD7 t (L.drop k)).map (·+k)
theorem zPi {L t:Str} {k:Nat} (h:atP L k t=true):fnd L k t=some k:=by
 unfold fnd;unfold atP at h
 cases hd:L.drop k with
 | nil=>rw[hd]at h;simp[zD7,h]
 | cons c l=>rw[hd]at h;simp[zD7,h]
theorem zOZ {L t:Str} {k:Nat} (h:atP L k t=false) (hk:k<L.length):fnd L k t=fnd L (k+1) t:=by
 unfold fnd;unfold atP at h;rw[List.drop_eq_getElem_cons hk]at h ⊢;rw[zD7,if_neg (by rw[h];simp),Option.map_map]
 congr 1
 funext x
 simp;omega
theorem zGv {t:Str}:∀ (l:Str),l.length<t.length→zD7 t l=none
 | [],h=>by
  have:t≠[]:=by intro e;subst e;simp at h
  rw[zD7,if_neg (by rw[List.isPrefixOf_iff_prefix];intro hp;exact this (List.prefix_nil.1 hp))]
 | c::l,h=>by
  rw[zD7,if_neg (by
   intro hp;have:=List.IsPrefix.length_le (List.isPrefixOf_iff_prefix.1 hp)
   omega),zGv l (by simp at h;omega)]
  rfl
theorem zP3 {L t:Str} {k:Nat} (h:L.length<k+t.length) (ht:t≠[]):fnd L k t=none:=by
 unfold fnd
 rw[zGv _ (by
  have:0<t.length:=List.length_pos_iff.2 ht
  simp;omega)]
 rfl
def digB (c:Nat):Bool:=decide (48≤c)&&decide (c≤57)
theorem zGd (l:Str) (c:UInt8):numF (l++[c])=min (10 * numF l+(c.toNat - 48)) 101:=by simp[numF]
theorem zIM (l:Str):numF l≤101:=by
 rcases List.eq_nil_or_concat l with rfl|⟨l',c,rfl⟩
 ·simp[numF]
 ·rw[List.concat_eq_append,zGd];omega
theorem zEL {L:Str} {k:Nat} (h:k<L.length):byt L k=L[k].toNat:=by
 unfold byt;rw[List.getD_eq_getElem?_getD,List.getElem?_eq_getElem h];rfl
theorem zKZ {L:Str} {i k:Nat} (h1:i≤k) (h2:k<L.length):(L.drop i).take (k+1 - i)=(L.drop i).take (k - i)++[L[k]]:=by
 rw[show k+1 - i=(k - i)+1 from by omega,List.take_succ_eq_append_getElem (by simp;omega)]
 congr 2
 simp[show i+(k - i)=k from by omega]
theorem zOP {L:Str} {i k:Nat} (h1:i≤k) (h2:k<L.length):numF ((L.drop i).take (k+1 - i))=min (10 * numF ((L.drop i).take (k - i))+(byt L k - 48)) 101:=by
 rw[zKZ h1 h2,zGd,zEL h2]
theorem zOh {L:Str} {i k:Nat} (h1:i≤k) (h2:k<L.length) (h:((L.drop i).take (k - i)).all zA5=true) (hd:digB (byt L k)=true):((L.drop i).take (k+1 - i)).all zA5=true:=by
 rw[zKZ h1 h2,List.all_append,h,zEL h2]at *
 simpa [zA5,digB] using hd
theorem zGE {p:UInt8→Bool}:∀ (l:Str) (n:Nat),n≤l.length→(l.take n).all p=true→(∀ h:n<l.length,p l[n]=false)→l.takeWhile p=l.take n
 | [],n,h,_,_=>by simp
 | c::l,0,_,_,h3=>by
  have:=h3 (by simp)
  simp at this;simp[this]
 | c::l,n+1,h1,h2,h3=>by
  simp only[List.take_succ_cons,List.all_cons,Bool.and_eq_true]at h2;rw[List.takeWhile_cons,if_pos h2.1,List.take_succ_cons,zGE l n (by simp at h1;omega) h2.2 (fun h=>h3 (Nat.succ_lt_succ h))]
theorem zLC {L:Str} {i k:Nat} (h1:i≤k) (h2:k≤L.length) (h:((L.drop i).take (k - i)).all zA5=true) (he:k<L.length→digB (byt L k)=false) :
  zCX L i=if k=i∨(i+1<k∧byt L i=48) then none else some (numF ((L.drop i).take (k - i)),k):=by
 have e:(L.drop i).takeWhile zA5=(L.drop i).take (k - i):=zGE _ _ (by simp;omega) h (fun hlt=>by
  simp at hlt;have h3:=he (by omega)
  rw[zEL (by omega)]at h3
  simp only[List.getElem_drop];have e2:i+(k - i)=k:=by omega
  simp only[e2]
  simpa [zA5,digB] using h3)
 unfold zCX;simp only[e];have hl:((L.drop i).take (k - i)).length=k - i:=by simp;omega
 by_cases hk:k=i
 ·subst hk;simp
 ·have hne:(L.drop i).take (k - i)≠[]:=by intro hc;rw[hc]at hl;simp at hl;omega
  rw[hl,show i+(k - i)=k from by omega]
  by_cases h5:i+1<k∧byt L i=48
  ·rw[if_pos (.inr ⟨by omega,h5.2⟩),if_pos (.inr h5)]
  ·rw[if_neg (by rintro(h6|h6);exact hne h6;exact h5 ⟨by omega,h6.2⟩),if_neg (by rintro(h6|h6);exact hk h6;exact h5 h6)]
theorem zGr {L:Str} {i b e:Nat} (h:escP L i=some (b,e)):i+2≤e∧e≤L.length∧b<256:=by
 unfold escP at h;split at h
 ·rename_i h1;split at h
  ·rename_i b' hp
   cases h
   refine⟨by omega,by omega,?_⟩
   unfold zFZ at hp
   (repeat' split at hp)<;>first|(cases hp;omega)|cases hp
  ·split at h
   ·split at h
    ·split at h
     ·cases h
     ·rename_i x hx;split at h
      ·split at h
       ·cases h
       ·rename_i y hy
        cases h
        have hx1:x≤15:=by unfold hexP at hx;(repeat' split at hx)<;>first|(cases hx;omega)|cases hx
        have hy1:y≤15:=by unfold hexP at hy;(repeat' split at hy)<;>first|(cases hy;omega)|cases hy
        omega
      ·cases h
    ·cases h
   ·split at h
    ·cases h
    ·split at h
     ·cases h
     ·cases h
      have:=zCI L (i+1);omega
 ·cases h
theorem zD4 {L:Str} {i b e:Nat} (h:zCv L i=some (b,e)):i+1≤e∧e≤L.length∧b<256:=by
 unfold zCv at h;split at h
 ·split at h
  ·have:=zGr h;omega
  ·cases h
   have:=zCI L i;omega
 ·cases h
theorem zGV {t:Str}:∀ {l:Str} {k:Nat},zD7 t l=some k→k+t.length≤l.length
 | [],k,h=>by
  unfold zD7 at h;split at h
  ·rename_i hp
   cases h
   have:=List.IsPrefix.length_le (List.isPrefixOf_iff_prefix.1 hp)
   simpa using this
  ·cases h
 | c::l,k,h=>by
  unfold zD7 at h;split at h
  ·rename_i hp
   cases h
   have:=List.IsPrefix.length_le (List.isPrefixOf_iff_prefix.1 hp);omega
  ·obtain⟨k',hk,rfl⟩:=Option.map_eq_some_iff.1 h;have:=zGV hk;simp;omega
theorem zC6 {L t:Str} {i:Nat} (h:atP L i t=true) (ht:t≠[]):i+t.length≤L.length:=by
 by_cases hc:i+t.length≤L.length
 ·exact hc
 ·rw[zMb (by omega) ht]at h;cases h
theorem zOF {L:Str} {i e:Nat} {s:Nat→Nat} (h:zEZ L i=some (some (s,e))):i+4≤e∧e≤L.length∧zAf s:=by
 unfold zEZ at h;split at h
 ·rename_i ha;have hl:=zC6 ha (by simp)
  simp at hl;split at h
  ·cases h
  ·rename_i k hf;have hk:=zGV hf;simp at hk;simp only[]at h;split at h
   ·cases h
   ·rename_i s' hn;simp only[Option.some.injEq,Prod.mk.injEq]at h;obtain⟨h1,h2⟩:=h;refine⟨by omega,by omega,?_⟩
    subst h1;split
    ·exact zES _
    ·exact zGy hn
 ·cases h
theorem zJf {L:Str} {i e:Nat} {s:Nat→Nat} (h:zDC L i=some (s,e)):i+1≤e∧e≤L.length∧zAf s:=by
 unfold zDC at h;split at h
 ·cases h
 ·rename_i lo k ht;have h1:=zD4 ht;split at h
  ·split at h
   ·cases h
   ·rename_i hi e' ht2;have h2:=zD4 ht2;split at h
    ·cases h
     exact⟨by omega,by omega,zBf _ _⟩
    ·cases h
  ·cases h
   exact⟨by omega,by omega,zBb _⟩
theorem zDp {L:Str} {i e:Nat} {s:Nat→Nat} (h:zDj L i=some (s,e)):i+1≤e∧e≤L.length∧zAf s:=by
 unfold zDj at h;split at h
 ·rename_i r hr;subst h;have:=zOF hr;exact⟨by omega,this.2.1,this.2.2⟩
 ·split at h
  ·rename_i s' hs;split at hs
   ·rename_i hc
    cases h
    exact⟨by omega,by omega,zKU hs⟩
   ·cases hs
  ·exact zJf h
theorem zOv {L:Str} {i k:Nat}:(L.take (k+(i+2))).drop (i+2)=(L.drop (i+2)).take k:=by
 rw[List.drop_take];congr 1;omega
section
variable {P:Program} {ops:Array Oper} {rest:List Oper} {o:Oper} {a:Act} {w w0:World} {Q:Exit→Act→World→Prop} {l:List Res}
end
def WordR (o:Option (WordD × Nat)) (e:Ending):Prop:=match o with
 | some (w,k)=>e=.returned (.tuple #[zAd w,.int .i64 k])
 | none=>∃ w,e=.returned (.tuple #[zAd w,.int .i64 (-1)])
theorem WordR.ok {o:Option (WordD × Nat)} {w:WordD} {k:Nat} (h:o=some (w,k)):WordR o (.returned (.tuple #[zAd w,.int .i64 k])):=by subst h;rfl
theorem WordR.no {o:Option (WordD × Nat)} {w:WordD} (h:o=none):WordR o (.returned (.tuple #[zAd w,.int .i64 (-1)])):=by subst h;exact⟨w,rfl⟩
def brW (i:Nat) (o:Option (Nat × Int × Nat)):Option (WordD × Nat):=o.map (fun p=>({kind:=11,place:=i,lo:=p.1,hi:=p.2.1},p.2.2))
theorem zB6 {L:Str} {i n k:Nat} (h:zCX L i=some (n,k)) (hi:i≤L.length):i+1≤k∧k≤L.length∧n≤101:=by
 unfold zCX at h;simp only[]at h;split at h
 ·cases h
 ·rename_i hc;simp only[Option.some.injEq,Prod.mk.injEq]at h;obtain⟨rfl,rfl⟩:=h;have h1:((L.drop i).takeWhile zA5).length≤(L.drop i).length:=(List.takeWhile_prefix _).length_le;have h2:((L.drop i).takeWhile zA5).length≠0:=fun e=>hc (.inl (List.length_eq_zero_iff.1 e))
  simp at h1;exact⟨by omega,by omega,zIM _⟩
theorem zF6 {L:Str}:∀ (f k:Nat) (b:Bool) (S S':Nat→Nat) (e:Nat),k≤L.length→zAv L f k b S=some (S',e)→k+1≤e∧e≤L.length
 | 0,_,_,_,_,_,_,h=>by cases h
 | f+1,k,b,S,S',e,hk,h=>by
  rw[zAv]at h;split at h
  ·rename_i hc;have:=zC6 hc.2 (by simp)
   simp at this
   cases h
   omega
  ·split at h
   ·cases h
   ·rename_i t e' hi;have h1:=zDp hi;have:=zF6 f e' false _ S' e h1.2.1 h;omega
theorem zNf {L:Str} {i e:Nat} {d:WordD} (hi:i<L.length) (h:zBO L i=some (d,e)):i+1≤e∧e≤L.length:=by
 unfold zBO at h;obtain⟨⟨S,e'⟩,h1,h2⟩:=Option.map_eq_some_iff.1 h
 cases h2
 split at h1
 ·rename_i ha;have:=zC6 ha (by simp)
  simp at this;have:=zF6 _ _ _ _ _ _ (by omega) h1
  omega
 ·have:=zF6 _ _ _ _ _ _ (by omega) h1
  omega
theorem zD3 {L:Str}:∀ (f k:Nat) (a b:Bool) (d d':WordD) (e:Nat),zAT L f k a b d=some (d',e)→k+1≤e∧e≤L.length
 | 0,_,_,_,_,_,_,h=>by cases h
 | f+1,k,a,b,d,d',e,h=>by
  rw[zAT]at h;split at h
  ·rename_i hk;simp only[]at h;split at h
   ·have:=zD3 f _ _ _ _ _ _ h;omega
   ·split at h
    ·have:=zD3 f _ _ _ _ _ _ h;omega
    ·split at h
     ·have:=zD3 f _ _ _ _ _ _ h;omega
     ·split at h
      ·split at h
       ·cases h
       ·have:=zD3 f _ _ _ _ _ _ h;omega
      ·split at h
       ·split at h
        ·cases h;omega
        ·cases h
       ·split at h
        ·split at h
         ·cases h;omega
         ·cases h
        ·cases h
  ·cases h
theorem zLq {L:Str} {i e:Nat} {d:WordD} (h:zBH L i=some (d,e)):i+1≤e∧e≤L.length:=by
 unfold zBH at h;split at h
 ·rename_i s hs;split at hs
  ·cases h;omega
  ·cases hs
 ·split at h
  ·rename_i k hk;split at hk
   ·cases h;omega
   ·cases hk
  ·obtain⟨⟨b,e'⟩,h1,h2⟩:=Option.map_eq_some_iff.1 h
   cases h2
   have:=zGr h1;omega
theorem zEz {L:Str} {i e k:Nat} {lo hi:Int} {d:WordD} (he:e≤L.length) (h:zAZ L i lo hi e=.ok (d,k)):e≤k∧k≤L.length:=by
 unfold zAZ at h;split at h
 ·cases h
 ·split at h
  ·rename_i ha;have:=zC6 ha (by simp)
   simp at this
   cases h;omega
  ·cases h;omega
theorem zE6 {α:Type} {o:Option α} {x:α} (h:zBi o=.ok x):o=some x:=by cases o<;>cases h;rfl
theorem zHa {L:Str} {i lo e:Nat} {hi:Int} (h:zBI L i=some (lo,hi,e)) (hi2:i<L.length):i+2≤e∧e≤L.length:=by
 unfold zBI at h;split at h
 ·cases h
 ·rename_i n k hn;have h1:=zB6 hn (by omega)
  split at h
  ·rename_i ha;have:=zC6 ha (by simp)
   simp at this
   cases h
   omega
  ·split at h
   ·rename_i ha;have h2:=zC6 ha (by simp)
    simp at h2;split at h
    ·cases h
    ·rename_i m e' hm;have h3:=zB6 hm (by omega)
     split at h
     ·rename_i hb;have h4:=zC6 hb (by simp)
      simp at h4
      cases h
      omega
     ·cases h
   ·split at h
    ·rename_i hb;have h4:=zC6 hb (by simp)
     simp at h4
     cases h
     omega
    ·cases h
theorem zGY {L:Str} {i k:Nat} {d:WordD} (hi:i<L.length) (h:zAq L i=.ok (d,k)):i+1≤k∧k≤L.length:=by
 unfold zAq at h;simp only[]at h;split at h
 ·exact zLq (zE6 h)
 ·split at h
  ·exact zNf hi (zE6 h)
  ·split at h
   ·split at h
    ·have:=zD3 _ _ _ _ _ _ _ (zE6 h);omega
    ·cases h;omega
   ·split at h
    ·split at h
     ·rename_i lo hi2 e hb;have h1:=zHa hb hi;have:=zEz (by omega) h
      omega
     ·cases h;omega
    ·split at h
     ·have:=zEz (by omega) h;omega
     ·split at h
      ·have:=zEz (by omega) h;omega
      ·split at h
       ·have:=zEz (by omega) h;omega
       ·split at h
        ·cases h;omega
        ·cases h;omega
def wcat (ws:List WordD):Except (Nat × Nat) (List WordD)→Except (Nat × Nat) (List WordD)
 | .error x=>.error x
 | .ok l=>.ok (ws++l)
theorem zKN (r:Except (Nat × Nat) (List WordD)):wcat [] r=r:=by cases r<;>rfl
theorem zKm {L:Str} {f j k:Nat} {d:WordD} {ws:List WordD} (hj:j<L.length) (h:zAq L j=.ok (d,k)):wcat ws (zA9 L (f+1) j)=wcat (ws++[d]) (zA9 L f k):=by
 rw[zA9,if_pos hj,h];simp only[]
 cases zA9 L f k with
 | error x=>rfl
 | ok l=>simp[wcat]
theorem zI7 {L:Str} {f j x:Nat} {ws:List WordD} (hj:j<L.length) (h:zAq L j=.error x):wcat ws (zA9 L (f+1) j)=.error (j,x):=by
 rw[zA9,if_pos hj,h];rfl
theorem zIs {L:Str} {f j:Nat} {ws:List WordD} (hj:¬ j<L.length):wcat ws (zA9 L f j)=.ok ws:=by
 cases f with
 | zero=>rw[zA9,if_neg hj];simp[wcat]
 | succ f=>rw[zA9,if_neg hj];simp[wcat]
def zF1 (ws:List WordD):List Value:=ws.flatMap (fun d=>(zAY d).toList)
theorem zHo (ws:List WordD) (d:WordD):zF1 (ws++[d])=zF1 ws++(zAY d).toList:=by simp[zF1]
theorem zET {L:Str} {i e x:Nat} {lo hi:Int} (h:zAZ L i lo hi e=.error x):x=6:=by
 unfold zAZ at h;split at h
 ·cases h;rfl
 ·split at h<;>cases h
theorem zHB {α:Type} {o:Option α} {x:Nat} (h:zBi o=.error x):x=4:=by cases o<;>cases h;rfl
theorem zFV {L:Str} {i x:Nat} (h:zAq L i=.error x):x=4∨x=6:=by
 unfold zAq at h;simp only[]at h;split at h
 ·exact .inl (zHB h)
 ·split at h
  ·exact .inl (zHB h)
  ·split at h
   ·split at h
    ·exact .inl (zHB h)
    ·cases h
   ·split at h
    ·split at h
     ·exact .inr (zET h)
     ·cases h
    ·split at h
     ·exact .inr (zET h)
     ·split at h
      ·exact .inr (zET h)
      ·split at h
       ·exact .inr (zET h)
       ·split at h<;>cases h
section
variable {M:Nat→Prop} {w0 W W':World} {l:List Res}
theorem HoldG.kn (H:HoldG M w0 W l) {i:Nat} {F:Nat→Prop} {S:World→Prop} (hi:At l i (.kn F S)):S W:=(H.all i _ hi.get).2 W (fun _ _=>rfl)
theorem HoldG.knlt (H:HoldG M w0 W l) {i:Nat} {F:Nat→Prop} {S:World→Prop} (hi:At l i (.kn F S)):∀ b,F b→b<W.heap.size:=(H.all i _ hi.get).1
theorem HoldG.know (H:HoldG M w0 W l) (F:Nat→Prop) (S:World→Prop) (hlt:∀ b,F b→b<W.heap.size) (hap:∀ (i:Nat) (r:Res),l[i]?=some r→∀ b,r.place=some b→¬ F b)
  (hS:∀ V:World,(∀ b,F b→V.heap[b]?=W.heap[b]?)→S V):HoldG M w0 W (l++[.kn F S]):=by
 refine⟨H.keep,?_,?_⟩
 ·intro j s hs;rw[List.getElem?_append]at hs;split at hs
  ·exact H.all j s hs
  ·rcases List.getElem?_eq_some_iff.1 hs with ⟨h1,h2⟩
   simp at h1;simp[h1]at h2;subst h2;exact⟨hlt,hS⟩
 ·intro j k s t hjk hs ht;rw[List.getElem?_append]at hs ht;split at hs
  ·split at ht
   ·exact H.apart j k s t hjk hs ht
   ·rcases List.getElem?_eq_some_iff.1 ht with ⟨h1,h2⟩
    simp at h1;simp[h1]at h2;subst h2;exact hap j s hs
  ·rcases List.getElem?_eq_some_iff.1 hs with ⟨h1,h2⟩
   simp at h1;simp[h1]at h2;subst h2;intro b h;cases h
def Still (l:List Res) (G:Nat→Prop):Prop:=∀ b,G b→∃ (i:Nat) (r:Res),l[i]?=some r∧r.place=none∧r.foot b
theorem Still.none:Still l (fun _=>False):=fun _ h=>h.elim
theorem Still.at {i:Nat} {F:Nat→Prop} {S:World→Prop} (hi:At l i (.kn F S)):Still l F:=fun b hb=>⟨i,_,hi.get,rfl,hb⟩
theorem Still.or {F G:Nat→Prop} (h:Still l F) (k:Still l G):Still l (fun b=>F b∨G b):=fun b hb=>hb.elim (h b) (k b)
theorem Still.apart (H:HoldG M w0 W l) {G:Nat→Prop} (h:Still l G):∀ (i:Nat) (r:Res),l[i]?=some r→∀ b,r.place=some b→¬ G b:=by
 intro i r hi b hb hg;obtain⟨j,s,hj,hs,hf⟩:=h b hg
 by_cases e:i=j
 ·subst e;rw[hi]at hj;cases hj
  rw[hs]at hb;cases hb
 ·exact H.apart i j r s e hi hj b hb hf
theorem Still.lt (H:HoldG M w0 W l) {G:Nat→Prop} (h:Still l G):∀ b,G b→b<W.heap.size:=fun b hb=>by
 obtain⟨j,s,hj,hs,hf⟩:=h b hb;exact(H.all j s hj).ltf b hf
theorem HoldG.also (H:HoldG M w0 W l) (F:Nat→Prop) (S:World→Prop) (hF:Still l F) (hS:∀ V:World,(∀ b,F b→V.heap[b]?=W.heap[b]?)→S V):HoldG M w0 W (l++[.kn F S]) :=
 H.know F S (hF.lt H) (hF.apart H) hS
theorem HoldG.learn (H:HoldG M w0 W l) (hb:Below W.heap.size W W') {F G:Nat→Prop} {S:World→Prop} (hG:Still l G) (hF:∀ b,F b→b<W'.heap.size∧(W.heap.size≤b∨G b))
  (hS:∀ V:World,(∀ b,F b→V.heap[b]?=W'.heap[b]?)→S V):HoldG M w0 W' (l++[.kn F S]) :=
 (H.call hb).know F S (fun b h=>(hF b h).1) (fun i r hi b hp hf=>by
  rcases(hF b hf).2 with h|h
  ·have:=((H.all i r hi).lt b hp).2;omega
  ·exact hG.apart H i r hi b hp h) hS
theorem HoldG.learnBut (H:HoldG M w0 W l) {i b0:Nat} {cs cs':Array Value} {T:TypeId} (hi:At l i (.blk b0 cs T)) (hk:KeepBut (·=b0) W.heap.size W W') (hb:W'.heap[b0]?=some (.cells cs' T (0,0)))
  {F G:Nat→Prop} {S:World→Prop} (hG:Still l G) (hF:∀ b,F b→b<W'.heap.size∧(W.heap.size≤b∨G b)) (hS:∀ V:World,(∀ b,F b→V.heap[b]?=W'.heap[b]?)→S V):HoldG M w0 W' (l.set i (.blk b0 cs' T)++[.kn F S]) :=
 (H.callBut hi hk hb).know F S (fun b h=>(hF b h).1) (fun j r hj b hp hf=>by
  have:∃ s,l[j]?=some s∧s.place=some b:=by
   rw[List.getElem?_set]at hj;split at hj
   ·rename_i e;subst e;split at hj
    ·cases hj;exact⟨_,hi.get,hp⟩
    ·cases hj
   ·exact⟨r,hj,hp⟩
  obtain⟨s,hs,hsp⟩:=this;rcases(hF b hf).2 with h|h
  ·have:=((H.all j s hs).lt b hsp).2;omega
  ·exact hG.apart H j s hs b hsp h) hS
theorem HoldG.pick (H:HoldG M w0 W l) (js:List Nat) (l':List Res) (hn:js.Nodup) (h:js.map (fun j=>l[j]?)=l'.map some):HoldG M w0 W l':=by
 have hlen:js.length=l'.length:=by simpa using congrArg List.length h
 have key:∀ (i:Nat) (r:Res),l'[i]?=some r→∃ j:Nat,js[i]?=some j∧l[j]?=some r:=by
  intro i r hi;have h1:(l'.map some)[i]?=some (some r):=by rw[List.getElem?_map,hi];rfl
  rw[← h,List.getElem?_map]at h1;obtain⟨j,hj,e⟩:=Option.map_eq_some_iff.1 h1;exact⟨j,hj,e⟩
 refine⟨H.keep,fun i r hi=>?_,fun i k r s hik hi hk=>?_⟩
 ·obtain⟨j,_,e⟩:=key i r hi;exact H.all j r e
 ·obtain⟨j,hj,e⟩:=key i r hi;obtain⟨m,hm,e'⟩:=key k s hk;refine H.apart j m r s (fun ejm=>hik ?_) e e'
  subst ejm;obtain⟨h1,h1'⟩:=List.getElem?_eq_some_iff.1 hj;obtain⟨h2,h2'⟩:=List.getElem?_eq_some_iff.1 hm;exact(List.getElem_inj hn).1 (h1'.trans h2'.symm)
theorem HoldG.rest (H:HoldG M w0 W l) {i:Nat} {r:Res} (hi:At l i r) (S:World→Prop) (hS:∀ V:World,(∀ b,r.foot b→V.heap[b]?=W.heap[b]?)→S V):HoldG M w0 W (l.set i (.kn r.foot S)):=by
 have hil:i<l.length:=(List.getElem?_eq_some_iff.1 hi.get).1;refine⟨H.keep,fun j s hs=>?_,fun j k s t hjk hs ht=>?_⟩
 ·rw[List.getElem?_set]at hs;split at hs
  ·rename_i e;subst e;cases hs
   exact⟨fun b hb=>(H.all i r hi.get).ltf b hb,hS⟩
  ·exact H.all j s hs
 ·rw[List.getElem?_set]at hs ht;split at hs
  ·rename_i e;subst e;cases hs
   intro b hb;cases hb
  ·split at ht
   ·rename_i _ e;subst e;cases ht
    exact H.apart j i s r hjk hs hi.get
   ·exact H.apart j k s t hjk hs ht
end
def RdN (sz:Nat) (W:World) (F:Nat→Prop) (s:Value) (rows:List (Array Value)):Prop :=
 ∃ p cap,s=.slice p rows.length cap∧rows.length≤cap∧cap≤maxLen∧(p=none→cap=0) ∧
  ∀ (j:Nat) (r:Array Value),rows[j]?=some r→∃ b off,p=some ⟨b,off,none⟩∧F b∧r.size=sz∧∀ k,k<sz→W.cell? ⟨b,off+j * sz+k,none⟩=r[k]?
theorem RdN.kept {sz:Nat} {W V:World} {F:Nat→Prop} {s:Value} {rows:List (Array Value)} (h:RdN sz W F s rows) (hk:∀ b,F b→V.heap[b]?=W.heap[b]?):RdN sz V F s rows:=by
 obtain⟨p,cap,e,h1,h2,h0,h3⟩:=h;refine⟨p,cap,e,h1,h2,h0,fun j r hj=>?_⟩
 obtain⟨b,off,e1,e2,e3,e4⟩:=h3 j r hj;refine⟨b,off,e1,e2,e3,fun k hk'=>?_⟩
 rw[← e4 k hk'];simp[World.cell?,hk b e2]
theorem RdN.mono {sz:Nat} {W:World} {F G:Nat→Prop} {s:Value} {rows:List (Array Value)} (h:RdN sz W F s rows) (hFG:∀ b,F b→G b):RdN sz W G s rows:=by
 obtain⟨p,cap,e,h1,h2,h0,h3⟩:=h;exact⟨p,cap,e,h1,h2,h0,fun j r hj=>let ⟨b,off,e1,e2,e3⟩:=h3 j r hj;⟨b,off,e1,hFG b e2,e3⟩⟩
theorem RdN.nil (sz:Nat) (W:World) (F:Nat→Prop) (p:Option Addr):RdN sz W F (.slice p 0 0) []:=⟨p,0,rfl,Nat.le_refl _,by simp,fun _=>rfl,fun j r h=>by simp at h⟩
def zAb (rows:List (Array Value)):List Value:=(rows.map Array.toList).flatten
theorem zBc (rows rows':List (Array Value)):zAb (rows++rows')=zAb rows++zAb rows':=by simp[zAb]
theorem zJT (r:Array Value):zAb [r]=r.toList:=by simp[zAb]
theorem zBy {sz:Nat}:∀ {rows:List (Array Value)},(∀ r ∈ rows,r.size=sz)→(zAb rows).length=rows.length * sz
 | [],_=>by simp[zAb]
 | r::rows,h=>by
  have ih:=zBy (rows:=rows) (fun r hr=>h r (List.mem_cons_of_mem _ hr))
  have h1:=h r (List.mem_cons_self ..);simp only[zAb,List.map_cons,List.flatten_cons,List.length_append,List.length_cons]at *;rw[ih,Array.length_toList,h1,Nat.succ_mul];omega
theorem zDZ {sz:Nat}:∀ {rows:List (Array Value)},(∀ r ∈ rows,r.size=sz)→∀ {j:Nat} {r:Array Value} {k:Nat},rows[j]?=some r→k<sz→(zAb rows)[j * sz+k]?=r[k]?
 | [],_,_,_,_,h,_=>by simp at h
 | q::rows,hs,0,r,k,h,hk=>by
  simp at h;subst h;have h1:=hs q (List.mem_cons_self ..);simp only[zAb,List.map_cons,List.flatten_cons];rw[Nat.zero_mul,Nat.zero_add,List.getElem?_append_left (by simp;omega)]
  simp
 | q::rows,hs,j+1,r,k,h,hk=>by
  have h1:=hs q (List.mem_cons_self ..);have ih:=zDZ (rows:=rows) (fun r hr=>hs r (List.mem_cons_of_mem _ hr)) (j:=j) (r:=r) (k:=k) (by simpa using h) hk
  simp only[zAb,List.map_cons,List.flatten_cons]at *;rw[Nat.succ_mul,List.getElem?_append_right (by simp;omega),← ih]
  simp only[Array.length_toList,h1]
  congr 1;omega
theorem RdN.of_own {sz:Nat} {w V:World} {base:Nat} {e:TypeId} {v:Value} {n:Nat} {rows:List (Array Value)} (h:w.ownsRow base e sz v n (zAb rows)) (hs:∀ r ∈ rows,r.size=sz) (hl:rows.length=n)
  (hk:∀ b,v.ownBlock=some b→V.heap[b]?=w.heap[b]?):RdN sz V (fun b=>v.ownBlock=some b) v rows:=by
 subst hl;obtain⟨_,⟨rfl,hn⟩|⟨g,cap,cur,rfl,hb,hg,hn,hc,hsz,ht⟩⟩:=h
 ·rw[List.length_eq_zero_iff.1 hn];exact RdN.nil ..
 ·refine⟨_,cap,rfl,hn,hc,(fun h=>by cases h),fun j r hj=>⟨g,0,rfl,rfl,hs r (List.mem_of_getElem? hj),fun k hk'=>?_⟩⟩
  have hg':V.heap[g]?=some (.cells cur e (0,0)):=(hk g rfl).trans hg;have hlt:=(List.getElem?_eq_some_iff.1 hj).1;rw[cell_of_row V g (0+j * sz+k) cur e (0,0) hg',Nat.zero_add,← zDZ hs hj hk',← ht,List.getElem?_take,if_pos,Array.getElem?_toList];have:(j+1) * sz≤rows.length * sz:=Nat.mul_le_mul_right _ hlt;rw[Nat.succ_mul]at this;omega
theorem zIX {w:World} {base:Nat} {e:TypeId} {sz:Nat} {v:Value} {n:Nat} {xs:List Value} (h:w.ownsRow base e sz v n xs):∃ q cap,v=.slice q n cap∧(0<n→∃ g,q=some ⟨g,0,none⟩):=by
 obtain⟨_,⟨hv,hn⟩|⟨g,cap,cur,hv,_⟩⟩:=h
 ·exact⟨none,0,by rw[hv,hn],fun h=>by omega⟩
 ·exact⟨_,cap,hv,fun _=>⟨g,rfl⟩⟩
section
variable {P:Program} {ops:Array Oper} {rest:List Oper} {o:Oper} {a:Act} {w w0:World} {Q:Exit→Act→World→Prop} {l:List Res} {M:Nat→Prop}
theorem zJq {T:TypeId} {b k n:Nat} {vs:Array Value} (hT:rowB P T n=true) (hn:vs.size=n) (hv:∀ j,j<n→w.cell? ⟨b,k+j,none⟩=vs[j]?):(loadVar T ⟨b,k,none⟩).run P w=.ok (.agg vs) w:=by
 obtain⟨d,hu,hd,hs⟩:=zF3 hT
 have:=run_loadVar_mid (P:=P) w b k T vs.toList d (fun j v hj=>by
  have hlt:j<n:=by have:=(List.getElem?_eq_some_iff.1 hj).1;simp at this;omega
  rw[hv j hlt];simpa using hj) hu hd (by rw[hs];simp[hn])
 simpa using this
theorem zB0 {T:TypeId} {x:Operand} (ho:o.op=.load T x) {b k n:Nat} (hx:a.eval x=.pointer (some ⟨b,k,none⟩)) {vs:Array Value} (hT:rowB P T n=true) (hn:vs.size=n) (hv:∀ j,j<n→w.cell? ⟨b,k+j,none⟩=vs[j]?) :
  (execOp a.eval o).run P w=.ok (.value (.agg vs)) w:=by
 unfold execOp;simp only[ho,hx,Instr.loadAt,Instr.sureAddr,Sem.run_bind,Sem.run_pure,Result.andThen_ok,zJq hT hn hv]
theorem zBL (hg:Region.wanted o (yielded ops a.tmps)=true) (T:TypeId) (x:Operand) (ho:o.op=.load T x) {b k n:Nat} (hx:a.eval x=.pointer (some ⟨b,k,none⟩)) {vs:Array Value} (hT:rowB P T n=true) (hn:vs.size=n) (hv:∀ j,j<n→w.cell? ⟨b,k+j,none⟩=vs[j]?)
  (h:wpList P ops Q rest (a.put o.dst (.agg vs)) w):wpList P ops Q (o::rest) a w :=
 zAi hg (zB0 ho hx hT hn hv) h
theorem zAK {T:TypeId} {x:Operand} (ho:o.op=.load T x) {ad:Addr} (hx:a.eval x=.pointer (some ad)) (hT:oneB P T=true) {v:Value} (hv:w.cell? ad=some v) :
  (execOp a.eval o).run P w=.ok (.value v) w:=by
 unfold execOp;simp only[ho,hx,Instr.loadAt,Instr.sureAddr,Sem.run_bind,Sem.run_pure,Result.andThen_ok,zBF hT hv]
theorem zAE (hg:Region.wanted o (yielded ops a.tmps)=true) (T:TypeId) (x:Operand) (ho:o.op=.load T x) {ad:Addr} (hx:a.eval x=.pointer (some ad)) (hT:oneB P T=true) {v:Value} (hv:w.cell? ad=some v)
  (h:wpList P ops Q rest (a.put o.dst v) w):wpList P ops Q (o::rest) a w :=
 zAi hg (zAK ho hx hT hv) h
theorem HoldG.rowCell (H:HoldG M w0 w l) {i g n cap sz:Nat} {e:TypeId} {rows:List (Array Value)} (hi:At l i (.row (.slice (some ⟨g,0,none⟩) n cap) e sz n (zAb rows))) (hs:∀ r ∈ rows,r.size=sz) (hl:rows.length=n) {j:Nat} {r:Array Value} (hj:rows[j]?=some r) {q:Nat} (hq:j * sz=q) :
  ∀ k,k<sz→w.cell? ⟨g,q+k,none⟩=r[k]?:=by
 subst hq;intro k hk;have h:=RdN.of_own (V:=w) (H.all i _ hi.get) hs hl (fun _ _=>rfl)
 obtain⟨p,c,e1,_,_,_,h3⟩:=h;obtain⟨b,off,e2,_,_,h4⟩:=h3 j r hj
 cases e1;cases e2
 have:=h4 k hk
 rwa [Nat.zero_add]at this
theorem zNK:∀ (vs:List Value) (cs:Array Value) (k:Nat),(zBE cs k vs).size=cs.size
 | [],_,_=>rfl
 | v::r,cs,k=>by
  show (zBE (cs.setIfInBounds k v) (k+1) r).size=_
  rw[zNK r];simp
theorem zLx {sz:Nat} {rows:List (Array Value)} (hs:∀ r ∈ rows,r.size=sz) {vs:Array Value} (hv:vs.size=sz) {i:Nat} (hi:i<rows.length):(zBE (zAb rows).toArray (i * sz) vs.toList).toList=zAb (rows.set i vs):=by
 have hs':∀ r ∈ rows.set i vs,r.size=sz:=fun r hr=>(List.mem_or_eq_of_mem_set hr).elim (hs r) (fun e=>e ▸ hv)
 have hz:0<sz∨sz=0:=by omega
 apply List.ext_getElem?;intro j;rw[Array.getElem?_toList,zD8];simp only[Array.length_toList,List.size_toArray,List.getElem?_toArray,hv,zBy hs];rcases hz with hz|hz
 ·by_cases hj:j<rows.length * sz
  ·have hd:j=j / sz * sz+j % sz:=by rw[Nat.mul_comm];exact(Nat.div_add_mod j sz).symm
   have hm:j % sz<sz:=Nat.mod_lt _ hz;have hq:j / sz<rows.length:=Nat.div_lt_of_lt_mul (by rw[Nat.mul_comm];exact hj)
   by_cases e:j / sz=i
   ·rw[if_pos ⟨by rw[← e];omega,by rw[← e];omega,hj⟩]
    have h2:=zDZ hs' (j:=i) (r:=vs) (k:=j % sz) (by rw[List.getElem?_set];simp[hi]) hm
    rw[show i * sz+j % sz=j from by rw[← e];omega]at h2
    rw[h2,Array.getElem?_toList,show j - i * sz=j % sz from by rw[← e];omega]
   ·rw[if_neg (fun h=>e (by
     have h1:=h.1;have h2:=h.2.1;have a1:i≤j / sz:=(Nat.le_div_iff_mul_le hz).2 h1;have a2:j / sz<i+1:=Nat.div_lt_of_lt_mul (by rw[Nat.mul_comm,Nat.succ_mul];exact h2)
     omega))]
    have hr:rows[j / sz]?=some rows[j / sz]:=List.getElem?_eq_getElem hq;have h1:=zDZ hs hr hm;have h2:=zDZ hs' (j:=j / sz) (r:=rows[j / sz]) (k:=j % sz) (by rw[List.getElem?_set,if_neg (fun e'=>e e'.symm)];exact hr) hm
    rw[← hd]at h1 h2;rw[h1,h2]
  ·rw[if_neg (fun h=>hj h.2.2),List.getElem?_eq_none (by rw[zBy hs];omega),List.getElem?_eq_none (by rw[zBy hs',List.length_set];omega)]
 ·subst hz;have e1:zAb rows=[]:=List.length_eq_zero_iff.1 (by rw[zBy hs,Nat.mul_zero])
  have e2:zAb (rows.set i vs)=[]:=List.length_eq_zero_iff.1 (by rw[zBy hs',Nat.mul_zero])
  rw[e1,e2];simp
theorem zBp (hg:Region.wanted o (yielded ops a.tmps)=true) (T:TypeId) (x y:Operand) (ho:o.op=.store T x y) {g i sz n cap q:Nat} (hx:a.eval x=.pointer (some ⟨g,q,none⟩)) (hq:i * sz=q) {vs:Array Value} (hy:a.eval y=.agg vs) (H:HoldG M w0 w l) {j:Nat} {e:TypeId} {rows:List (Array Value)}
  (hi:At l j (.row (.slice (some ⟨g,0,none⟩) n cap) e sz n (zAb rows))) (hs:∀ r ∈ rows,r.size=sz) (hl:rows.length=n)
  (hT:zDA P T sz=true) (hv:vs.size=sz) (h1:vs.toList.all (·.oneCell')=true) (hin:i<n) (h:∀ w',HoldG M w0 w' (l.set j (.row (.slice (some ⟨g,0,none⟩) n cap) e sz n (zAb (rows.set i vs))))→wpList P ops Q rest (a.put o.dst undef) w'):wpList P ops Q (o::rest) a w :=
 zAj hg fun _ hK=>by
  subst hq hl;have hs':∀ r ∈ rows.set i vs,r.size=sz:=fun r hr=>(List.mem_or_eq_of_mem_set hr).elim (hs r) (fun e=>e ▸ hv)
  obtain⟨hlen,⟨hv',_⟩|⟨g',cap',cur,hv',hb,hg',hn,hc,hsz,ht⟩⟩:=H.all j _ hi.get
  ·cases hv'
  ·cases hv'
   have hm1:(i+1) * sz≤rows.length * sz:=Nat.mul_le_mul_right _ hin;have hm2:rows.length * sz≤cap * sz:=Nat.mul_le_mul_right _ hn;have hm3:(i+1) * sz=i * sz+sz:=Nat.succ_mul i sz;have hth:w.there g (i * sz) vs.size:=fun q hq=>by
    rw[cell_of_row w g (i * sz+q) cur e (0,0) hg'];simp[World.frozen?,hg'];omega
   unfold Oper.wp execOp;simp only[ho,hx,hy,Instr.storeAt,Instr.sureAddr,Sem.run_bind,Sem.run_pure,Result.andThen_ok,run_storeVar_mid (P:=P) w g (i * sz) T vs hth (by subst hv;simpa [zDA] using hT) (by rw[Array.all_toList]at h1;exact h1)]
   have hh:=zCn vs.toList (i * sz) w g cur e _ hg';refine hK _ _ (h _ (H.upd hi.get (zCY vs.toList (i * sz) w g) ⟨?_,.inr ⟨g,cap,_,rfl,hb,hh,hn,hc,?_,?_⟩⟩ (fun _ e=>.inl e)))
   ·rw[zBy hs',List.length_set]
   ·rw[zNK,hsz]
   ·rw[← zLx hs hv hin];have hfl:(zAb rows).length=rows.length * sz:=zBy hs;apply List.ext_getElem?;intro q;rw[List.getElem?_take,Array.getElem?_toList,Array.getElem?_toList,zD8,zD8];simp only[Array.length_toList,List.size_toArray,List.getElem?_toArray,hfl,hsz];have hcur:q<rows.length * sz→cur[q]?=(zAb rows)[q]?:=fun hq=>by
     rw[← ht,List.getElem?_take,if_pos hq,Array.getElem?_toList]
    by_cases hq:q<rows.length * sz
    ·rw[if_pos hq]
     by_cases hc1:i * sz≤q∧q<i * sz+vs.size∧q<cap * sz
     ·rw[if_pos hc1,if_pos ⟨hc1.1,hc1.2.1,hq⟩]
     ·rw[if_neg hc1,if_neg (fun h'=>hc1 ⟨h'.1,h'.2.1,by omega⟩),hcur hq]
    ·rw[if_neg hq,if_neg (fun h'=>hq h'.2.2),List.getElem?_eq_none (by omega)]
end
theorem zJY {w:World} {base:Nat} {e:TypeId} {sz g n cap m:Nat} {xs:List Value} (h:w.ownsRow base e sz (.slice (some ⟨g,0,none⟩) n cap) n xs) (hm:m≤n):w.ownsRow base e sz (.slice (some ⟨g,0,none⟩) m cap) m (xs.take (m * sz)):=by
 have hmn:m * sz≤n * sz:=Nat.mul_le_mul_right _ hm;obtain⟨hl,⟨hv,_⟩|⟨g',cap',cur,hv,hb,hg,hn,hc,hsz,ht⟩⟩:=h
 ·cases hv
 ·cases hv
  refine⟨by rw[List.length_take];omega,.inr ⟨g,cap,cur,rfl,hb,hg,by omega,hc,hsz,?_⟩⟩
  rw[← ht,List.take_take,Nat.min_eq_left hmn]
section
variable {M:Nat→Prop} {w0 w:World} {l:List Res}
theorem HoldG.cutRow (H:HoldG M w0 w l) {i g n cap m sz:Nat} {e:TypeId} {xs:List Value} (hi:At l i (.row (.slice (some ⟨g,0,none⟩) n cap) e sz n xs)) (hm:m≤n):HoldG M w0 w (l.set i (.row (.slice (some ⟨g,0,none⟩) m cap) e sz m (xs.take (m * sz)))) :=
 H.upd hi.get ⟨rfl,rfl,rfl,Nat.le_refl _,fun _ _ _=>rfl⟩ (zJY (H.all i _ hi.get) hm) (fun _ e=>.inl e)
theorem HoldG.row1 (H:HoldG M w0 w l) {i g n cap:Nat} {e:TypeId} {xs:List Value} (hi:At l i (.row (.slice (some ⟨g,0,none⟩) n cap) e 1 n xs)) {j:Nat} {v:Value} (hj:xs[j]?=some v):w.cell? ⟨g,j,none⟩=some v:=by
 rcases Rd.of_own (H.all i _ hi.get) with ⟨_,h⟩|⟨b,off,cap',e1,_,_,_,h4⟩
 ·subst h;simp at hj
 ·obtain⟨hlt,rfl⟩:=List.getElem?_eq_some_iff.1 hj;injection e1 with e2 e3 e4
  injection e2 with e2
  injection e2 with e2 e5
  subst e2 e5
  simpa using h4 j hlt
theorem HoldG.rowShape (H:HoldG M w0 w l) {i n sz:Nat} {e:TypeId} {v:Value} {xs:List Value} (hi:At l i (.row v e sz n xs)):∃ q cap,v=.slice q n cap∧n≤cap∧cap≤maxLen∧(0<n→∃ g,q=some ⟨g,0,none⟩):=by
 obtain⟨_,⟨hv,hn⟩|⟨g,cap,cur,hv,_,_,hn,hc,_⟩⟩:=H.all i _ hi.get
 ·exact⟨none,0,by rw[hv,hn],by omega,by simp,fun h=>by omega⟩
 ·exact⟨_,cap,hv,hn,hc,fun _=>⟨g,rfl⟩⟩
end
section
variable {M:Nat→Prop} {w0 W:World} {l:List Res}
theorem HoldG.restG (H:HoldG M w0 W l) {i:Nat} {r:Res} (hi:At l i r) (G:Nat→Prop) (S:World→Prop) (hG:∀ b,G b→r.foot b∨∃ (j:Nat) (s:Res),l[j]?=some s∧s.place=none∧s.foot b) (hS:∀ V:World,(∀ b,G b→V.heap[b]?=W.heap[b]?)→S V):HoldG M w0 W (l.set i (.kn G S)):=by
 have hil:i<l.length:=(List.getElem?_eq_some_iff.1 hi.get).1;refine⟨H.keep,fun j s hs=>?_,fun j k s t hjk hs ht=>?_⟩
 ·rw[List.getElem?_set]at hs;split at hs
  ·rename_i e;subst e;cases hs
   refine⟨fun b hb=>?_,hS⟩
   rcases hG b hb with h|⟨j,s,hj,_,h⟩
   ·exact(H.all _ r hi.get).ltf b h
   ·exact(H.all j s hj).ltf b h
  ·exact H.all j s hs
 ·rw[List.getElem?_set]at hs ht;split at hs
  ·rename_i e;subst e;cases hs
   intro b hb;cases hb
  ·rename_i hne;split at ht
   ·rename_i e;subst e;cases ht
    intro b hb hf;rcases hG b hf with h|⟨z,u,hz,hu,h⟩
    ·exact H.apart j i s r hjk hs hi.get b hb h
    ·by_cases e:j=z
     ·subst e;rw[hs]at hz;cases hz;rw[hu]at hb;cases hb
     ·exact H.apart j z s u e hs hz b hb h
   ·exact H.apart j k s t hjk hs ht
end
structure NodeD where
 kind:Int
 set:Nat→Nat:=zAC
 lo:Int:=0
 hi:Int:=0
 lazy:Bool:=false
 group:Int:=0
inductive Tree where
 | mk (d:NodeD) (kids:List Tree)
def Tree.d:Tree→NodeD|.mk d _=>d
def Tree.kids:Tree→List Tree|.mk _ k=>k
mutual
def zBk:Tree→Nat
 | .mk _ ks=>1+zA2 ks
def zA2:List Tree→Nat
 | []=>0
 | t::r=>zBk t+zA2 r
end
mutual
def zDa:Tree→Nat
 | .mk _ ks=>zBR ks+1
def zBR:List Tree→Nat
 | []=>0
 | t::r=>max (zDa t) (zBR r)
end
theorem zGZ (t:Tree):zBk t=1+zA2 t.kids:=by cases t;simp[zBk,Tree.kids]
theorem zKF (t:Tree):zDa t=zBR t.kids+1:=by cases t;simp[zDa,Tree.kids]
theorem zFf (t:Tree):0<zBk t:=by rw[zGZ];omega
theorem zBG:∀ (a b:List Tree),zA2 (a++b)=zA2 a+zA2 b
 | [],b=>by simp[zA2]
 | t::r,b=>by simp only[List.cons_append,zA2];rw[zBG r b];omega
theorem zFU:∀ (a b:List Tree),zBR (a++b)=max (zBR a) (zBR b)
 | [],b=>by simp[zBR]
 | t::r,b=>by simp only[List.cons_append,zBR];rw[zFU r b];omega
theorem zCi (t:Tree):zA2 [t]=zBk t:=by simp[zA2]
theorem zK2 (t:Tree):zBR [t]=zDa t:=by simp[zBR]
theorem zFa {α:Type} {l:List α} {i:Nat} {x:α} (h:l[i]?=some x):l.take (i+1)=l.take i++[x]:=by
 rw[List.take_add_one,h];rfl
theorem zHG {ts:List Tree} {i:Nat} {t:Tree} (h:ts[i]?=some t):zA2 (ts.take (i+1))=zA2 (ts.take i)+zBk t:=by
 rw[zFa h,zBG,zCi]
theorem zJl {ts:List Tree} {i:Nat} {t:Tree} (h:ts[i]?=some t):zBR (ts.take (i+1))=max (zBR (ts.take i)) (zDa t):=by
 rw[zFa h,zFU,zK2]
theorem zHj {ts:List Tree} {i:Nat} {t:Tree} (h:ts[i]?=some t):zA2 (ts.take i)+zBk t≤zA2 ts:=by
 rw[← zHG h]
 conv=>rhs;rw[← List.take_append_drop (i+1) ts,zBG]
 omega
theorem zKp:∀ ts:List Tree,ts.length≤zA2 ts
 | []=>by simp
 | t::r=>by have:=zKp r;have:=zFf t;simp only[List.length_cons,zA2];omega
mutual
theorem zHC:∀ t:Tree,zDa t≤zBk t
 | .mk d ks=>by have:=zFw ks;simp only[zDa,zBk];omega
theorem zFw:∀ ts:List Tree,zBR ts≤zA2 ts
 | []=>by simp[zBR]
 | t::r=>by have:=zHC t;have:=zFw r;simp only[zBR,zA2];omega
end
def zAR (d:NodeD) (s:Value):Array Value:=#[.int .i64 d.kind,.int .u64 (d.set 0),.int .u64 (d.set 1),.int .u64 (d.set 2),.int .u64 (d.set 3),s,.int .i64 d.lo,.int .i64 d.hi,.bool d.lazy,.int .i64 d.group]
theorem ng0 (d:NodeD) (s:Value):(zAR d s)[0]?=some (.int .i64 d.kind):=rfl
theorem ng5 (d:NodeD) (s:Value):(zAR d s)[5]?=some s:=rfl
theorem ng6 (d:NodeD) (s:Value):(zAR d s)[6]?=some (.int .i64 d.lo):=rfl
theorem ng7 (d:NodeD) (s:Value):(zAR d s)[7]?=some (.int .i64 d.hi):=rfl
theorem ng8 (d:NodeD) (s:Value):(zAR d s)[8]?=some (.bool d.lazy):=rfl
theorem ng9 (d:NodeD) (s:Value):(zAR d s)[9]?=some (.int .i64 d.group):=rfl
abbrev zAl (d:NodeD) (s:Value):Value:=.agg (zAR d s)
abbrev nilS:Value:=.slice none 0 0
abbrev TV:=Tree × Option Addr × Nat
abbrev zAn (x:TV):Array Value:=zAR x.1.d (.slice x.2.1 x.1.kids.length x.2.2)
theorem zCT (x:TV):(zAn x).size=10:=rfl
theorem zBW (xs:List TV):∀ r ∈ xs.map zAn,r.size=10:=by
 intro r hr;obtain⟨x,_,rfl⟩:=List.mem_map.1 hr;rfl
inductive ForestR (W:World) (F:Nat→Prop):Option Addr→Nat→List Tree→Prop where
 | mk (p:Option Addr) (c:Nat) (ts:List Tree) (xs:List TV) (h:RdN 10 W F (.slice p ts.length c) (xs.map zAn)) (hk:∀ x ∈ xs,ForestR W F x.2.1 x.2.2 x.1.kids) (e:ts=xs.map (·.1)):ForestR W F p c ts
theorem ForestR.kept {W V:World} {F:Nat→Prop} {p:Option Addr} {c:Nat} {ts:List Tree} (h:ForestR W F p c ts) (hk:∀ b,F b→V.heap[b]?=W.heap[b]?):ForestR V F p c ts:=by
 induction h with
 | mk p c ts xs h _ e ih=>exact .mk p c ts xs (h.kept hk) ih e
theorem ForestR.mono {W:World} {F G:Nat→Prop} {p:Option Addr} {c:Nat} {ts:List Tree} (h:ForestR W F p c ts) (hFG:∀ b,F b→G b):ForestR W G p c ts:=by
 induction h with
 | mk p c ts xs h _ e ih=>exact .mk p c ts xs (h.mono hFG) ih e
theorem ForestR.nil (W:World) (F:Nat→Prop) (p:Option Addr):ForestR W F p 0 []:=.mk _ _ _ [] (RdN.nil ..) (fun _ h=>by cases h) rfl
def ListR (W:World) (F:Nat→Prop) (xs:List TV):Prop:=∀ x ∈ xs,ForestR W F x.2.1 x.2.2 x.1.kids
theorem ListR.kept {W V:World} {F:Nat→Prop} {xs:List TV} (h:ListR W F xs) (hk:∀ b,F b→V.heap[b]?=W.heap[b]?):ListR V F xs:=fun x hx=>(h x hx).kept hk
theorem ListR.mono {W:World} {F G:Nat→Prop} {xs:List TV} (h:ListR W F xs) (hFG:∀ b,F b→G b):ListR W G xs:=fun x hx=>(h x hx).mono hFG
theorem ListR.append {W:World} {F:Nat→Prop} {xs ys:List TV} (h:ListR W F xs) (k:ListR W F ys):ListR W F (xs++ys):=fun x hx=>(List.mem_append.1 hx).elim (h x) (k x)
theorem ListR.nil (W:World) (F:Nat→Prop):ListR W F []:=fun _ h=>by cases h
theorem ListR.one {W:World} {F:Nat→Prop} {t:Tree} {p:Option Addr} {c:Nat} (h:ForestR W F p c t.kids):ListR W F [(t,p,c)]:=fun x hx=>by
 rw[List.mem_singleton]at hx;subst hx;exact h
theorem ForestR.open {W:World} {F:Nat→Prop} {p:Option Addr} {c:Nat} {ts:List Tree} (h:ForestR W F p c ts):∃ xs:List TV,RdN 10 W F (.slice p xs.length c) (xs.map zAn)∧ListR W F xs∧ts=xs.map (·.1):=by
 cases h with
 | mk p c ts xs h hk e =>
  have hl:ts.length=xs.length:=by rw[e,List.length_map]
  rw[hl]at h;exact⟨xs,h,hk,e⟩
def zDg (w:World) (G:Nat→Prop) (t:Tree) (e:Ending) (w':World):Prop :=
 ∃ p c F,e=.returned (zAl t.d (.slice p t.kids.length c))∧ForestR w' F p c t.kids∧∀ b,F b→b<w'.heap.size∧(w.heap.size≤b∨G b)
def zCk (s:Nat→Nat):Nat→(Nat→Nat)
 | 0=>s
 | n+1=>if hasB s (97+n) || hasB s (65+n) then addS (addS (zCk s n) (97+n)) (65+n) else zCk s n
def zDK (s:Nat→Nat):Nat→Nat:=zCk s 26
theorem zDc {s:Nat→Nat} (hs:zAf s):∀ n,zAf (zCk s n)
 | 0=>hs
 | n+1=>by
  unfold zCk;split
  ·exact zEd (zEd (zDc hs n) _) _
  ·exact zDc hs n
abbrev zAP:=Bool × Bool × Bool
def zEA (f:zAP):Array Value:=#[.bool f.1,.bool f.2.1,.bool f.2.2]
abbrev zBq (f:zAP):Value:=.agg (zEA f)
theorem fg0 (f:zAP):(zEA f)[0]?=some (.bool f.1):=rfl
theorem fg1 (f:zAP):(zEA f)[1]?=some (.bool f.2.1):=rfl
theorem fg2 (f:zAP):(zEA f)[2]?=some (.bool f.2.2):=rfl
def zDv (k:Int):Tree:=.mk {kind:=k} []
def rowT (k:Int) (ts:List Tree):Tree:=match ts with
 | []=>zDv 1
 | [t]=>t
 | _=>.mk {kind:=k} ts
def zEc (f:zAP) (w:WordD):zAP:=((f.1 || w.on.1)&&!w.off.1,(f.2.1 || w.on.2.1)&&!w.off.2.1,(f.2.2 || w.on.2.2)&&!w.off.2.2)
def setT (s:Nat→Nat):Tree:=if eqS s zAC then zDv 2 else .mk {kind:=3,set:=s} []
def zGU (f:zAP) (a b:Int):Tree:=zDv (if f.2.1 then b else a)
def zCb (w:WordD) (f:zAP):Tree :=
 if w.kind=1 then
  let s:=if f.1 then zDK w.set else w.set
  setT (if w.neg then notS s else s)
 else if w.kind=2 then (if f.2.2 then setT (zAV 0 256) else setT (notS (ofS [10])))
 else if w.kind=3 then zGU f 8 10
 else if w.kind=4 then zGU f 9 11
 else zDv w.spot
def zA1 (w:WordD):Bool:=w.kind == 6 || w.kind == 7
def repT (w:WordD) (t:Tree):Tree:=.mk {kind:=6,lo:=w.lo,hi:=w.hi,lazy:=w.lazy} [t]
def zEh (k:Nat) (t:Tree):Tree:=.mk {kind:=7,group:=k} [t]
def zA0:Nat→zAP→List WordD→Nat→List Tree→List Tree→Option (Tree × List WordD × Nat)
 | 0,_,_,_,_,_=>none
 | _+1,_,[],g,all,items=>some (rowT 5 (all++[rowT 4 items]),[],g)
 | n+1,f,w::r,g,all,items =>
  if w.kind=9 then some (rowT 5 (all++[rowT 4 items]),w::r,g)
  else if w.kind=8 then zA0 n (zEc f w) r g all items
  else if w.kind=10 then zA0 n f r g (all++[rowT 4 items]) []
  else if w.kind=11 then
   match items.getLast? with
   | none=>none
   | some last=>zA0 n f r g all (items.dropLast++[repT w last])
  else if w.kind=7 then
   match zA0 n (zEc f w) r g [] [] with
   | some (t,_::r',g')=>zA0 n f r' g' all (items++[t])
   | _=>none
  else if w.kind=6 then
   match zA0 n f r (g+1) [] [] with
   | some (t,_::r',g')=>zA0 n f r' g' all (items++[zEh (g+1) t])
   | _=>none
  else zA0 n f r g all (items++[zCb w f])
def zAp:Bool→List Nat→List WordD→Option Nat
 | _,open_,[]=>open_.getLast?
 | bare,open_,w::r =>
  if w.kind=11∧bare=true∨w.kind=9∧open_=[] then some w.place
  else
   let o:=if zA1 w then open_++[w.place] else open_
   zAp (zA1 w || w.kind == 8 || w.kind == 10 || w.kind == 11) (if w.kind=9 then o.dropLast else o) r
def zCz (l:List WordD):Option Nat:=zAp true [] l
def zID (w:WordD):Bool:=zA1 w || w.kind == 8 || w.kind == 10 || w.kind == 11
def zDN (ws:List WordD):Nat→Bool
 | 0=>true
 | j+1=>match ws[j]? with|some w=>zID w|none=>true
theorem zEJ {ws:List WordD} {j:Nat} {w:WordD} (h:ws[j]?=some w):zDN ws (j+1)=zID w:=by simp[zDN,h]
theorem zEn {α:Type} {ws:List α} {j:Nat} {w:α} (h:ws[j]?=some w):ws.drop j=w::ws.drop (j+1):=by
 obtain⟨hlt,rfl⟩:=List.getElem?_eq_some_iff.1 h;exact List.drop_eq_getElem_cons hlt
theorem zI1 {bare:Bool} {op:List Nat} {ws:List WordD} {j:Nat} {w:WordD} (h:ws[j]?=some w) (hc:w.kind=11∧bare=true∨w.kind=9∧op=[]):zAp bare op (ws.drop j)=some w.place:=by
 rw[zEn h,zAp,if_pos hc]
theorem zKO {bare:Bool} {op:List Nat} {ws:List WordD} {j:Nat} {w:WordD} (h:ws[j]?=some w) (hc:¬ (w.kind=11∧bare=true∨w.kind=9∧op=[])) (ho:zA1 w=false) (h9:w.kind≠9) :
  zAp bare op (ws.drop j)=zAp (zDN ws (j+1)) op (ws.drop (j+1)):=by
 rw[zEn h,zAp,if_neg hc,zEJ h];simp[ho,h9,zID]
theorem zLc {bare:Bool} {op:List Nat} {ws:List WordD} {j:Nat} {w:WordD} (h:ws[j]?=some w) (ho:zA1 w=true):zAp bare op (ws.drop j)=zAp (zDN ws (j+1)) (op++[w.place]) (ws.drop (j+1)):=by
 have hk:w.kind=6∨w.kind=7:=by simpa [zA1] using ho
 rw[zEn h,zAp,if_neg (by omega),zEJ h]
 have h9:w.kind≠9:=by omega
 simp[ho,h9,zID]
theorem zJs {bare:Bool} {op:List Nat} {ws:List WordD} {j:Nat} {w:WordD} (h:ws[j]?=some w) (h9:w.kind=9) (hne:op≠[]):zAp bare op (ws.drop j)=zAp (zDN ws (j+1)) op.dropLast (ws.drop (j+1)):=by
 have ho:zA1 w=false:=by simp[zA1,h9]
 rw[zEn h,zAp,if_neg (by simp[h9,hne]),zEJ h]
 simp[ho,h9,zID]
theorem zL2 {bare:Bool} {op:List Nat} {ws:List WordD} {j:Nat} (h:ws.length≤j):zAp bare op (ws.drop j)=op.getLast?:=by
 rw[List.drop_eq_nil_of_le h,zAp]
end
end Go.Proofs.YtklcgfkdemifcaaGreatDoor
