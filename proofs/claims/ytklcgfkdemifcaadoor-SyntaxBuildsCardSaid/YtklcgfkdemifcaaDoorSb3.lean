/-
  Laws of walks, and walks.
-/
import Derived.Test.YtklcgfkdemifcaaDoorSb2
import Derived.Test.YtklcgfkdemifcaaDoorSb1
import Derived.Deep.CutRange
set_option linter.unusedVariables false
set_option linter.unusedSimpArgs false
set_option maxRecDepth 100000
set_option maxHeartbeats 16000000
namespace Go.Proofs.YtklcgfkdemifcaaDoor
section
open Go.RowKit
def zBX:Nat→Nat:=zAy 48 10
def zDN:Nat→Nat:=zAy 97 26
def zDM:Nat→Nat:=zAy 65 26
def zB4:Nat→Nat:=zBG [zBX,zDN,zDM]
def zEa:Nat→Nat:=zAy 33 94
def zEO:Nat→Nat:=zBG [zB4,ofS [95]]
def zCz:Nat→Nat:=ofS [9,10,12,13,32]
def namesL:List (Str × (Nat→Nat)) :=
 [([97,108,110,117,109],zB4),([97,108,112,104,97],zBG [zDN,zDM]),([97,115,99,105,105],zAy 0 128),([98,108,97,110,107],ofS [9,32]),
  ([99,110,116,114,108],zBG [zAy 0 32,ofS [127]]),([100,105,103,105,116],zBX),([103,114,97,112,104],zEa),([108,111,119,101,114],zDN),
  ([112,114,105,110,116],zAy 32 95),([112,117,110,99,116],zKM [zEa,notS zB4]),([115,112,97,99,101],zBG [zAy 9 5,ofS [32]]),([117,112,112,101,114],zDM),
  ([119,111,114,100],zEO),([120,100,105,103,105,116],zBG [zBX,zAy 97 6,zAy 65 6])]
def zFB (n:Str):Option (Nat→Nat):=(namesL.find? (fun p=>n == p.1)).map (·.2)
def sortsL:List (Nat × (Nat→Nat)):=[(100,zBX),(119,zEO),(115,zCz),(68,notS zBX),(87,notS zEO),(83,notS zCz)]
def zEj (c:Nat):Option (Nat→Nat):=(sortsL.find? (fun p=>c == p.1)).map (·.2)
def hexP (c:Nat):Option Nat:=if 48≤c∧c≤57 then some (c - 48) else if 97≤c∧c≤102 then some (c - 87) else if 65≤c∧c≤70 then some (c - 55) else none
def zF8 (c:Nat):Option Nat:=if c=110 then some 10 else if c=116 then some 9 else if c=114 then some 13 else if c=102 then some 12 else if c=118 then some 11 else if c=97 then some 7 else none
def escP (L:Str) (i:Nat):Option (Nat × Nat) :=
 if i+1<L.length then
  match zF8 (byt L (i+1)) with
  | some b=>some (b,i+2)
  | none =>
   if byt L (i+1)=120 then
    if i+2<L.length then
     match hexP (byt L (i+2)) with
     | none=>none
     | some h =>
      if i+3<L.length then
       match hexP (byt L (i+3)) with
       | none=>none
       | some g=>some (16 * h+g,i+4)
      else none
    else none
   else if 128≤byt L (i+1) then none
   else if hasB zB4 (byt L (i+1)) then none
   else some (byt L (i+1),i+2)
 else none
def zCZ (L:Str) (i:Nat):Option (Nat × Nat) :=
 if i<L.length then (if byt L i=92 then escP L i else some (byt L i,i+1)) else none
def atP (L:Str) (i:Nat) (t:Str):Bool:=t.isPrefixOf (L.drop i)
def zFu (t:Str):Str→Option Nat
 | []=>if t.isPrefixOf [] then some 0 else none
 | c::l=>if t.isPrefixOf (c::l) then some 0 else (zFu t l).map (·+1)
def zFU (L:Str) (i:Nat):Option (Option ((Nat→Nat) × Nat)) :=
 if atP L i [91,58] then
  match zFu [58,93] (L.drop (i+2)) with
  | none=>none
  | some k =>
   let name:=(L.drop (i+2)).take k
   let neg:=atP name 0 [94]
   match zFB (if neg then name.drop 1 else name) with
   | none=>some none
   | some s=>some (some (if neg then notS s else s,i+2+k+2))
 else none
def zCn (L:Str) (i:Nat):Option ((Nat→Nat) × Nat) :=
 match zCZ L i with
 | none=>none
 | some (lo,k) =>
  if k+1<L.length∧byt L k=45∧byt L (k+1)≠93 then
   match zCZ L (k+1) with
   | none=>none
   | some (hi,e)=>if lo≤hi then some (zAy lo (hi+1 - lo),e) else none
  else some (ofS [(lo:Int)],k)
def zFW (L:Str) (i:Nat):Option ((Nat→Nat) × Nat) :=
 match zFU L i with
 | some r=>r
 | none =>
  match (if byt L i=92∧i+1<L.length then zEj (byt L (i+1)) else none) with
  | some s=>some (s,i+2)
  | none=>zCn L i
def zBA (L:Str):Nat→Nat→Bool→(Nat→Nat)→Option ((Nat→Nat) × Nat)
 | 0,_,_,_=>none
 | f+1,k,first,S =>
  if first=false∧atP L k [93]=true then some (S,k+1)
  else match zFW L k with
   | none=>none
   | some (t,e)=>zBA L f e false (zBG [S,t])
structure WordD where
 kind:Nat
 place:Nat
 set:Nat→Nat:=zAM
 neg:Bool:=false
 spot:Nat:=0
 lo:Int:=0
 hi:Int:=0
 lazy:Bool:=false
 on:Bool × Bool × Bool:=(false,false,false)
 off:Bool × Bool × Bool:=(false,false,false)
def zAo (w:WordD):Array Value:=#[.int .i64 w.kind,.int .i64 w.place,.int .u64 (w.set 0),.int .u64 (w.set 1),.int .u64 (w.set 2),.int .u64 (w.set 3),.bool w.neg,.int .i64 w.spot,.int .i64 w.lo,.int .i64 w.hi,.bool w.lazy,
 .bool w.on.1,.bool w.on.2.1,.bool w.on.2.2,.bool w.off.1,.bool w.off.2.1,.bool w.off.2.2]
abbrev zAx (w:WordD):Value:=.agg (zAo w)
theorem wg0 (w:WordD):(zAo w)[0]?=some (.int .i64 w.kind):=rfl
theorem wg1 (w:WordD):(zAo w)[1]?=some (.int .i64 w.place):=rfl
theorem wg6 (w:WordD):(zAo w)[6]?=some (.bool w.neg):=rfl
def zB3 (L:Str) (i:Nat):Option (WordD × Nat) :=
 let neg:=atP L (i+1) [94]
 (zBA L (L.length+1) (if neg then i+2 else i+1) true zAM).map (fun (S,e)=>({kind:=1,place:=i,set:=S,neg:=neg},e))
def zAS (L:Str):Nat→Nat→Bool→Bool→WordD→Option (WordD × Nat)
 | 0,_,_,_,_=>none
 | f+1,k,off,opn,w =>
  if k<L.length then
   let c:=byt L k
   if c=105 then zAS L f (k+1) off true (if off then {w with off:=(true,w.off.2.1,w.off.2.2)} else {w with on:=(true,w.on.2.1,w.on.2.2)})
   else if c=109 then zAS L f (k+1) off true (if off then {w with off:=(w.off.1,true,w.off.2.2)} else {w with on:=(w.on.1,true,w.on.2.2)})
   else if c=115 then zAS L f (k+1) off true (if off then {w with off:=(w.off.1,w.off.2.1,true)} else {w with on:=(w.on.1,w.on.2.1,true)})
   else if c=45 then (if off then none else zAS L f (k+1) true false w)
   else if c=58 then (if opn then some ({w with kind:=7},k+1) else none)
   else if c=41 then (if opn then some ({w with kind:=8},k+1) else none)
   else none
  else none
def zBR (L:Str) (i:Nat):Option (WordD × Nat):=zAS L (L.length+1) (i+2) false true {kind:=0,place:=i}
def zAv (c:UInt8):Bool:=decide (48≤c.toNat)&&decide (c.toNat≤57)
def numF (l:Str):Nat:=l.foldl (fun n c=>min (10 * n+(c.toNat - 48)) 101) 0
def zBr (L:Str) (i:Nat):Option (Nat × Nat) :=
 let ds:=(L.drop i).takeWhile zAv
 if ds=[]∨1<ds.length∧byt L i=48 then none else some (numF ds,i+ds.length)
def zBN (L:Str) (i:Nat):Option (Nat × Int × Nat) :=
 match zBr L (i+1) with
 | none=>none
 | some (n,k) =>
  if atP L k [44,125] then some (n,-1,k+2)
  else if atP L k [44] then
   match zBr L (k+1) with
   | none=>none
   | some (m,e)=>if atP L e [125] then some (n,m,e+1) else none
  else if atP L k [125] then some (n,n,k+1) else none
def zAk (L:Str) (i:Nat) (lo hi:Int) (e:Nat):Except Nat (WordD × Nat) :=
 if 100<lo∨100<hi∨(0≤hi∧hi<lo) then .error 6
 else if atP L e [63] then .ok ({kind:=11,place:=i,lo:=lo,hi:=hi,lazy:=true},e+1)
 else .ok ({kind:=11,place:=i,lo:=lo,hi:=hi},e)
def zGu (c:Nat):Option Nat:=if c=98 then some 12 else if c=66 then some 13 else if c=65 then some 8 else if c=122 then some 9 else none
def zBi (L:Str) (i:Nat):Option (WordD × Nat) :=
 match (if i+1<L.length then zEj (byt L (i+1)) else none) with
 | some s=>some ({kind:=1,place:=i,set:=s},i+2)
 | none =>
  match (if i+1<L.length then zGu (byt L (i+1)) else none) with
  | some k=>some ({kind:=5,place:=i,spot:=k},i+2)
  | none=>(escP L i).map (fun (b,e)=>({kind:=1,place:=i,set:=ofS [(b:Int)]},e))
def zBg {α:Type}:Option α→Except Nat α
 | some a=>.ok a
 | none=>.error 4
def zKC (c:Nat):Option Nat:=if c=46 then some 2 else if c=94 then some 3 else if c=36 then some 4 else if c=41 then some 9 else if c=124 then some 10 else none
def zBK (L:Str) (i:Nat):Except Nat (WordD × Nat) :=
 let c:=byt L i
 if c=92 then zBg (zBi L i)
 else if c=91 then zBg (zB3 L i)
 else if c=40 then (if atP L (i+1) [63] then zBg (zBR L i) else .ok ({kind:=6,place:=i},i+1))
 else if c=123 then
  match zBN L i with
  | some (lo,hi,e)=>zAk L i lo hi e
  | none=>.ok ({kind:=1,place:=i,set:=ofS [123]},i+1)
 else if c=42 then zAk L i 0 (-1) (i+1)
 else if c=43 then zAk L i 1 (-1) (i+1)
 else if c=63 then zAk L i 0 1 (i+1)
 else match zKC c with
  | some k=>.ok ({kind:=k,place:=i},i+1)
  | none=>.ok ({kind:=1,place:=i,set:=ofS [(c:Int)]},i+1)
def zAt (L:Str):Nat→Nat→Except (Nat × Nat) (List WordD)
 | 0,i=>if i<L.length then .error (i,0) else .ok []
 | f+1,i =>
  if i<L.length then
   match zBK L i with
   | .error e=>.error (i,e)
   | .ok (w,j) =>
    match zAt L f j with
    | .error x=>.error x
    | .ok l=>.ok (w::l)
  else .ok []
def zCv (L:Str):Except (Nat × Nat) (List WordD):=zAt L L.length 0
theorem zDB:zA1 zBX:=zCD _
theorem zEb:zA1 zDN:=zCD _
theorem zEe:zA1 zDM:=zCD _
theorem zHC:zA1 zEa:=zCD _
theorem ok2 {s t:Nat→Nat} (hs:zA1 s) (ht:zA1 t):∀ x ∈ [s,t],zA1 x:=by intro x hx;simp at hx;rcases hx with rfl|rfl<;>assumption
theorem ok3 {s t u:Nat→Nat} (hs:zA1 s) (ht:zA1 t) (hu:zA1 u):∀ x ∈ [s,t,u],zA1 x:=by intro x hx;simp at hx;rcases hx with rfl|rfl|rfl<;>assumption
theorem zEi:zA1 zB4:=zCb (ok3 zDB zEb zEe)
theorem zGP:zA1 zEO:=zCb (ok2 zEi (zCD _))
theorem zCM (lo n:Nat):zA1 (zAy lo n):=zCD _
theorem zOZ:∀ p ∈ namesL,zA1 p.2:=by
 intro p hp;simp only[namesL,List.mem_cons,List.not_mem_nil,or_false]at hp;rcases hp with rfl|rfl|rfl|rfl|rfl|rfl|rfl|rfl|rfl|rfl|rfl|rfl|rfl|rfl
 ·exact zEi
 ·exact zCb (ok2 zEb zEe)
 ·exact zCM _ _
 ·exact zCD _
 ·exact zCb (ok2 (zCM _ _) (zCD _))
 ·exact zDB
 ·exact zHC
 ·exact zEb
 ·exact zCM _ _
 ·exact zOb (ok2 zHC (zFm _))
 ·exact zCb (ok2 (zCM _ _) (zCD _))
 ·exact zEe
 ·exact zGP
 ·exact zCb (ok3 zDB (zCM _ _) (zCM _ _))
theorem zI0 {n:Str} {s:Nat→Nat} (h:zFB n=some s):zA1 s:=by
 unfold zFB at h;obtain⟨p,hp,rfl⟩:=Option.map_eq_some_iff.1 h;exact zOZ p (List.mem_of_find?_eq_some hp)
theorem zKm {c:Nat} {s:Nat→Nat} (h:zEj c=some s):zA1 s:=by
 unfold zEj at h;obtain⟨p,hp,rfl⟩:=Option.map_eq_some_iff.1 h;have:=List.mem_of_find?_eq_some hp;simp only[sortsL,List.mem_cons,List.not_mem_nil,or_false]at this;rcases this with rfl|rfl|rfl|rfl|rfl|rfl
 ·exact zDB
 ·exact zGP
 ·exact zCD _
 ·exact zFm _
 ·exact zFm _
 ·exact zFm _
theorem zOg {L t:Str} {i:Nat} (h:L.length<i+t.length) (ht:t≠[]):atP L i t=false:=by
 unfold atP;rw[Bool.eq_false_iff];intro hc;have:=List.IsPrefix.length_le (List.isPrefixOf_iff_prefix.1 hc);simp at this;have:0<t.length:=List.length_pos_iff.2 ht;omega
theorem zO5 {L t:Str} {i:Nat} (h:i+t.length≤L.length):((L.take (i+t.length)).drop i == t)=atP L i t:=by
 unfold atP;have e:(L.take (i+t.length)).drop i=(L.drop i).take t.length:=by rw[List.drop_take];congr 1;omega
 rw[e,Bool.eq_iff_iff,beq_iff_eq,List.isPrefixOf_iff_prefix,List.prefix_iff_eq_take,eq_comm]
def digB (c:Nat):Bool:=decide (48≤c)&&decide (c≤57)
theorem zJZ (l:Str) (c:UInt8):numF (l++[c])=min (10 * numF l+(c.toNat - 48)) 101:=by simp[numF]
theorem zJ6 (l:Str):numF l≤101:=by
 rcases List.eq_nil_or_concat l with rfl|⟨l',c,rfl⟩
 ·simp[numF]
 ·rw[List.concat_eq_append,zJZ];omega
theorem zEI {L:Str} {k:Nat} (h:k<L.length):byt L k=L[k].toNat:=by
 unfold byt;rw[List.getD_eq_getElem?_getD,List.getElem?_eq_getElem h];rfl
theorem zF3 {p:UInt8→Bool}:∀ (l:Str) (n:Nat),n≤l.length→(l.take n).all p=true→(∀ h:n<l.length,p l[n]=false)→l.takeWhile p=l.take n
 | [],n,h,_,_=>by simp
 | c::l,0,_,_,h3=>by
  have:=h3 (by simp)
  simp at this;simp[this]
 | c::l,n+1,h1,h2,h3=>by
  simp only[List.take_succ_cons,List.all_cons,Bool.and_eq_true]at h2;rw[List.takeWhile_cons,if_pos h2.1,List.take_succ_cons,zF3 l n (by simp at h1;omega) h2.2 (fun h=>h3 (Nat.succ_lt_succ h))]
theorem zKy {L:Str} {i k:Nat} (h1:i≤k) (h2:k≤L.length) (h:((L.drop i).take (k - i)).all zAv=true) (he:k<L.length→digB (byt L k)=false) :
  zBr L i=if k=i∨(i+1<k∧byt L i=48) then none else some (numF ((L.drop i).take (k - i)),k):=by
 have e:(L.drop i).takeWhile zAv=(L.drop i).take (k - i):=zF3 _ _ (by simp;omega) h (fun hlt=>by
  simp at hlt;have h3:=he (by omega)
  rw[zEI (by omega)]at h3
  simp only[List.getElem_drop];have e2:i+(k - i)=k:=by omega
  simp only[e2]
  simpa [zAv,digB] using h3)
 unfold zBr;simp only[e];have hl:((L.drop i).take (k - i)).length=k - i:=by simp;omega
 by_cases hk:k=i
 ·subst hk;simp
 ·have hne:(L.drop i).take (k - i)≠[]:=by intro hc;rw[hc]at hl;simp at hl;omega
  rw[hl,show i+(k - i)=k from by omega]
  by_cases h5:i+1<k∧byt L i=48
  ·rw[if_pos (.inr ⟨by omega,h5.2⟩),if_pos (.inr h5)]
  ·rw[if_neg (by rintro(h6|h6);exact hne h6;exact h5 ⟨by omega,h6.2⟩),if_neg (by rintro(h6|h6);exact hk h6;exact h5 h6)]
theorem zF0 {L:Str} {i b e:Nat} (h:escP L i=some (b,e)):i+2≤e∧e≤L.length∧b<256:=by
 unfold escP at h;split at h
 ·rename_i h1;split at h
  ·rename_i b' hp
   cases h
   refine⟨by omega,by omega,?_⟩
   unfold zF8 at hp
   (repeat' split at hp)<;>first|(cases hp;omega)|cases hp
  ·split at h
   ·split at h
    ·split at h
     ·cases h
     ·rename_i x hx;split at h
      ·split at h
       ·cases h
       ·rename_i y hy
        cases h
        have hx1:x≤15:=by unfold hexP at hx;(repeat' split at hx)<;>first|(cases hx;omega)|cases hx
        have hy1:y≤15:=by unfold hexP at hy;(repeat' split at hy)<;>first|(cases hy;omega)|cases hy
        omega
      ·cases h
    ·cases h
   ·split at h
    ·cases h
    ·split at h
     ·cases h
     ·cases h
      have:=zEY L (i+1);omega
 ·cases h
theorem zB0 {L:Str} {i b e:Nat} (h:zCZ L i=some (b,e)):i+1≤e∧e≤L.length∧b<256:=by
 unfold zCZ at h;split at h
 ·split at h
  ·have:=zF0 h;omega
  ·cases h
   have:=zEY L i;omega
 ·cases h
theorem zIF {t:Str}:∀ {l:Str} {k:Nat},zFu t l=some k→k+t.length≤l.length
 | [],k,h=>by
  unfold zFu at h;split at h
  ·rename_i hp
   cases h
   have:=List.IsPrefix.length_le (List.isPrefixOf_iff_prefix.1 hp)
   simpa using this
  ·cases h
 | c::l,k,h=>by
  unfold zFu at h;split at h
  ·rename_i hp
   cases h
   have:=List.IsPrefix.length_le (List.isPrefixOf_iff_prefix.1 hp);omega
  ·obtain⟨k',hk,rfl⟩:=Option.map_eq_some_iff.1 h;have:=zIF hk;simp;omega
theorem zCp {L t:Str} {i:Nat} (h:atP L i t=true) (ht:t≠[]):i+t.length≤L.length:=by
 by_cases hc:i+t.length≤L.length
 ·exact hc
 ·rw[zOg (by omega) ht]at h;cases h
theorem zNj {L:Str} {i e:Nat} {s:Nat→Nat} (h:zFU L i=some (some (s,e))):i+4≤e∧e≤L.length∧zA1 s:=by
 unfold zFU at h;split at h
 ·rename_i ha;have hl:=zCp ha (by simp)
  simp at hl;split at h
  ·cases h
  ·rename_i k hf;have hk:=zIF hf;simp at hk;simp only[]at h;split at h
   ·cases h
   ·rename_i s' hn;simp only[Option.some.injEq,Prod.mk.injEq]at h;obtain⟨h1,h2⟩:=h;refine⟨by omega,by omega,?_⟩
    subst h1;split
    ·exact zFm _
    ·exact zI0 hn
 ·cases h
theorem zJz {L:Str} {i e:Nat} {s:Nat→Nat} (h:zCn L i=some (s,e)):i+1≤e∧e≤L.length∧zA1 s:=by
 unfold zCn at h;split at h
 ·cases h
 ·rename_i lo k ht;have h1:=zB0 ht;split at h
  ·split at h
   ·cases h
   ·rename_i hi e' ht2;have h2:=zB0 ht2;split at h
    ·cases h
     exact⟨by omega,by omega,zCM _ _⟩
    ·cases h
  ·cases h
   exact⟨by omega,by omega,zCD _⟩
theorem zDm {L:Str} {i e:Nat} {s:Nat→Nat} (h:zFW L i=some (s,e)):i+1≤e∧e≤L.length∧zA1 s:=by
 unfold zFW at h;split at h
 ·rename_i r hr;subst h;have:=zNj hr;exact⟨by omega,this.2.1,this.2.2⟩
 ·split at h
  ·rename_i s' hs;split at hs
   ·rename_i hc
    cases h
    exact⟨by omega,by omega,zKm hs⟩
   ·cases hs
  ·exact zJz h
section
variable {P:Program} {ops:Array Oper} {rest:List Oper} {o:Oper} {a:Act} {w w0:World} {Q:Exit→Act→World→Prop} {l:List Res}
end
def WordR (o:Option (WordD × Nat)) (e:Ending):Prop:=match o with
 | some (w,k)=>e=.returned (.tuple #[zAx w,.int .i64 k])
 | none=>∃ w,e=.returned (.tuple #[zAx w,.int .i64 (-1)])
theorem WordR.ok {o:Option (WordD × Nat)} {w:WordD} {k:Nat} (h:o=some (w,k)):WordR o (.returned (.tuple #[zAx w,.int .i64 k])):=by subst h;rfl
theorem zBk {L:Str} {i n k:Nat} (h:zBr L i=some (n,k)) (hi:i≤L.length):i+1≤k∧k≤L.length∧n≤101:=by
 unfold zBr at h;simp only[]at h;split at h
 ·cases h
 ·rename_i hc;simp only[Option.some.injEq,Prod.mk.injEq]at h;obtain⟨rfl,rfl⟩:=h;have h1:((L.drop i).takeWhile zAv).length≤(L.drop i).length:=(List.takeWhile_prefix _).length_le;have h2:((L.drop i).takeWhile zAv).length≠0:=fun e=>hc (.inl (List.length_eq_zero_iff.1 e))
  simp at h1;exact⟨by omega,by omega,zJ6 _⟩
theorem zCV {L:Str}:∀ (f k:Nat) (b:Bool) (S S':Nat→Nat) (e:Nat),k≤L.length→zBA L f k b S=some (S',e)→k+1≤e∧e≤L.length
 | 0,_,_,_,_,_,_,h=>by cases h
 | f+1,k,b,S,S',e,hk,h=>by
  rw[zBA]at h;split at h
  ·rename_i hc;have:=zCp hc.2 (by simp)
   simp at this
   cases h
   omega
  ·split at h
   ·cases h
   ·rename_i t e' hi;have h1:=zDm hi;have:=zCV f e' false _ S' e h1.2.1 h;omega
theorem zJF {L:Str} {i e:Nat} {d:WordD} (hi:i<L.length) (h:zB3 L i=some (d,e)):i+1≤e∧e≤L.length:=by
 unfold zB3 at h;obtain⟨⟨S,e'⟩,h1,h2⟩:=Option.map_eq_some_iff.1 h
 cases h2
 split at h1
 ·rename_i ha;have:=zCp ha (by simp)
  simp at this;have:=zCV _ _ _ _ _ _ (by omega) h1
  omega
 ·have:=zCV _ _ _ _ _ _ (by omega) h1
  omega
theorem zC2 {L:Str}:∀ (f k:Nat) (a b:Bool) (d d':WordD) (e:Nat),zAS L f k a b d=some (d',e)→k+1≤e∧e≤L.length
 | 0,_,_,_,_,_,_,h=>by cases h
 | f+1,k,a,b,d,d',e,h=>by
  rw[zAS]at h;split at h
  ·rename_i hk;simp only[]at h;split at h
   ·have:=zC2 f _ _ _ _ _ _ h;omega
   ·split at h
    ·have:=zC2 f _ _ _ _ _ _ h;omega
    ·split at h
     ·have:=zC2 f _ _ _ _ _ _ h;omega
     ·split at h
      ·split at h
       ·cases h
       ·have:=zC2 f _ _ _ _ _ _ h;omega
      ·split at h
       ·split at h
        ·cases h;omega
        ·cases h
       ·split at h
        ·split at h
         ·cases h;omega
         ·cases h
        ·cases h
  ·cases h
theorem zJI {L:Str} {i e:Nat} {d:WordD} (h:zBi L i=some (d,e)):i+1≤e∧e≤L.length:=by
 unfold zBi at h;split at h
 ·rename_i s hs;split at hs
  ·cases h;omega
  ·cases hs
 ·split at h
  ·rename_i k hk;split at hk
   ·cases h;omega
   ·cases hk
  ·obtain⟨⟨b,e'⟩,h1,h2⟩:=Option.map_eq_some_iff.1 h
   cases h2
   have:=zF0 h1;omega
theorem zD5 {L:Str} {i e k:Nat} {lo hi:Int} {d:WordD} (he:e≤L.length) (h:zAk L i lo hi e=.ok (d,k)):e≤k∧k≤L.length:=by
 unfold zAk at h;split at h
 ·cases h
 ·split at h
  ·rename_i ha;have:=zCp ha (by simp)
   simp at this
   cases h;omega
  ·cases h;omega
theorem zDR {α:Type} {o:Option α} {x:α} (h:zBg o=.ok x):o=some x:=by cases o<;>cases h;rfl
theorem zE1 {L:Str} {i lo e:Nat} {hi:Int} (h:zBN L i=some (lo,hi,e)) (hi2:i<L.length):i+2≤e∧e≤L.length:=by
 unfold zBN at h;split at h
 ·cases h
 ·rename_i n k hn;have h1:=zBk hn (by omega)
  split at h
  ·rename_i ha;have:=zCp ha (by simp)
   simp at this
   cases h
   omega
  ·split at h
   ·rename_i ha;have h2:=zCp ha (by simp)
    simp at h2;split at h
    ·cases h
    ·rename_i m e' hm;have h3:=zBk hm (by omega)
     split at h
     ·rename_i hb;have h4:=zCp hb (by simp)
      simp at h4
      cases h
      omega
     ·cases h
   ·split at h
    ·rename_i hb;have h4:=zCp hb (by simp)
     simp at h4
     cases h
     omega
    ·cases h
theorem zDs {L:Str} {i k:Nat} {d:WordD} (hi:i<L.length) (h:zBK L i=.ok (d,k)):i+1≤k∧k≤L.length:=by
 unfold zBK at h;simp only[]at h;split at h
 ·exact zJI (zDR h)
 ·split at h
  ·exact zJF hi (zDR h)
  ·split at h
   ·split at h
    ·have:=zC2 _ _ _ _ _ _ _ (zDR h);omega
    ·cases h;omega
   ·split at h
    ·split at h
     ·rename_i lo hi2 e hb;have h1:=zE1 hb hi;have:=zD5 (by omega) h
      omega
     ·cases h;omega
    ·split at h
     ·have:=zD5 (by omega) h;omega
     ·split at h
      ·have:=zD5 (by omega) h;omega
      ·split at h
       ·have:=zD5 (by omega) h;omega
       ·split at h
        ·cases h;omega
        ·cases h;omega
def wcat (ws:List WordD):Except (Nat × Nat) (List WordD)→Except (Nat × Nat) (List WordD)
 | .error x=>.error x
 | .ok l=>.ok (ws++l)
theorem zNP (r:Except (Nat × Nat) (List WordD)):wcat [] r=r:=by cases r<;>rfl
theorem zNX {L:Str} {f j k:Nat} {d:WordD} {ws:List WordD} (hj:j<L.length) (h:zBK L j=.ok (d,k)):wcat ws (zAt L (f+1) j)=wcat (ws++[d]) (zAt L f k):=by
 rw[zAt,if_pos hj,h];simp only[]
 cases zAt L f k with
 | error x=>rfl
 | ok l=>simp[wcat]
theorem zMl {L:Str} {f j x:Nat} {ws:List WordD} (hj:j<L.length) (h:zBK L j=.error x):wcat ws (zAt L (f+1) j)=.error (j,x):=by
 rw[zAt,if_pos hj,h];rfl
theorem zM8 {L:Str} {f j:Nat} {ws:List WordD} (hj:¬ j<L.length):wcat ws (zAt L f j)=.ok ws:=by
 cases f with
 | zero=>rw[zAt,if_neg hj];simp[wcat]
 | succ f=>rw[zAt,if_neg hj];simp[wcat]
def zIh (ws:List WordD):List Value:=ws.flatMap (fun d=>(zAo d).toList)
theorem zK5 (ws:List WordD) (d:WordD):zIh (ws++[d])=zIh ws++(zAo d).toList:=by simp[zIh]
theorem zEC {L:Str} {i e x:Nat} {lo hi:Int} (h:zAk L i lo hi e=.error x):x=6:=by
 unfold zAk at h;split at h
 ·cases h;rfl
 ·split at h<;>cases h
theorem zGe {α:Type} {o:Option α} {x:Nat} (h:zBg o=.error x):x=4:=by cases o<;>cases h;rfl
theorem zJD {L:Str} {i x:Nat} (h:zBK L i=.error x):x=4∨x=6:=by
 unfold zBK at h;simp only[]at h;split at h
 ·exact .inl (zGe h)
 ·split at h
  ·exact .inl (zGe h)
  ·split at h
   ·split at h
    ·exact .inl (zGe h)
    ·cases h
   ·split at h
    ·split at h
     ·exact .inr (zEC h)
     ·cases h
    ·split at h
     ·exact .inr (zEC h)
     ·split at h
      ·exact .inr (zEC h)
      ·split at h
       ·exact .inr (zEC h)
       ·split at h<;>cases h
section
variable {M:Nat→Prop} {w0 W W':World} {l:List Res}
theorem HoldG.kn (H:HoldG M w0 W l) {i:Nat} {F:Nat→Prop} {S:World→Prop} (hi:At l i (.kn F S)):S W:=(H.all i _ hi.get).2 W (fun _ _=>rfl)
theorem HoldG.knlt (H:HoldG M w0 W l) {i:Nat} {F:Nat→Prop} {S:World→Prop} (hi:At l i (.kn F S)):∀ b,F b→b<W.heap.size:=(H.all i _ hi.get).1
theorem HoldG.know (H:HoldG M w0 W l) (F:Nat→Prop) (S:World→Prop) (hlt:∀ b,F b→b<W.heap.size) (hap:∀ (i:Nat) (r:Res),l[i]?=some r→∀ b,r.place=some b→¬ F b)
  (hS:∀ V:World,(∀ b,F b→V.heap[b]?=W.heap[b]?)→S V):HoldG M w0 W (l++[.kn F S]):=by
 refine⟨H.keep,?_,?_⟩
 ·intro j s hs;rw[List.getElem?_append]at hs;split at hs
  ·exact H.all j s hs
  ·rcases List.getElem?_eq_some_iff.1 hs with ⟨h1,h2⟩
   simp at h1;simp[h1]at h2;subst h2;exact⟨hlt,hS⟩
 ·intro j k s t hjk hs ht;rw[List.getElem?_append]at hs ht;split at hs
  ·split at ht
   ·exact H.apart j k s t hjk hs ht
   ·rcases List.getElem?_eq_some_iff.1 ht with ⟨h1,h2⟩
    simp at h1;simp[h1]at h2;subst h2;exact hap j s hs
  ·rcases List.getElem?_eq_some_iff.1 hs with ⟨h1,h2⟩
   simp at h1;simp[h1]at h2;subst h2;intro b h;cases h
def Still (l:List Res) (G:Nat→Prop):Prop:=∀ b,G b→∃ (i:Nat) (r:Res),l[i]?=some r∧r.place=none∧r.foot b
theorem Still.none:Still l (fun _=>False):=fun _ h=>h.elim
theorem Still.at {i:Nat} {F:Nat→Prop} {S:World→Prop} (hi:At l i (.kn F S)):Still l F:=fun b hb=>⟨i,_,hi.get,rfl,hb⟩
theorem Still.or {F G:Nat→Prop} (h:Still l F) (k:Still l G):Still l (fun b=>F b∨G b):=fun b hb=>hb.elim (h b) (k b)
theorem Still.apart (H:HoldG M w0 W l) {G:Nat→Prop} (h:Still l G):∀ (i:Nat) (r:Res),l[i]?=some r→∀ b,r.place=some b→¬ G b:=by
 intro i r hi b hb hg;obtain⟨j,s,hj,hs,hf⟩:=h b hg
 by_cases e:i=j
 ·subst e;rw[hi]at hj;cases hj
  rw[hs]at hb;cases hb
 ·exact H.apart i j r s e hi hj b hb hf
theorem Still.lt (H:HoldG M w0 W l) {G:Nat→Prop} (h:Still l G):∀ b,G b→b<W.heap.size:=fun b hb=>by
 obtain⟨j,s,hj,hs,hf⟩:=h b hb;exact(H.all j s hj).ltf b hf
theorem HoldG.also (H:HoldG M w0 W l) (F:Nat→Prop) (S:World→Prop) (hF:Still l F) (hS:∀ V:World,(∀ b,F b→V.heap[b]?=W.heap[b]?)→S V):HoldG M w0 W (l++[.kn F S]) :=
 H.know F S (hF.lt H) (hF.apart H) hS
theorem HoldG.learn (H:HoldG M w0 W l) (hb:Below W.heap.size W W') {F G:Nat→Prop} {S:World→Prop} (hG:Still l G) (hF:∀ b,F b→b<W'.heap.size∧(W.heap.size≤b∨G b))
  (hS:∀ V:World,(∀ b,F b→V.heap[b]?=W'.heap[b]?)→S V):HoldG M w0 W' (l++[.kn F S]) :=
 (H.call hb).know F S (fun b h=>(hF b h).1) (fun i r hi b hp hf=>by
  rcases(hF b hf).2 with h|h
  ·have:=((H.all i r hi).lt b hp).2;omega
  ·exact hG.apart H i r hi b hp h) hS
theorem HoldG.pick (H:HoldG M w0 W l) (js:List Nat) (l':List Res) (hn:js.Nodup) (h:js.map (fun j=>l[j]?)=l'.map some):HoldG M w0 W l':=by
 have hlen:js.length=l'.length:=by simpa using congrArg List.length h
 have key:∀ (i:Nat) (r:Res),l'[i]?=some r→∃ j:Nat,js[i]?=some j∧l[j]?=some r:=by
  intro i r hi;have h1:(l'.map some)[i]?=some (some r):=by rw[List.getElem?_map,hi];rfl
  rw[← h,List.getElem?_map]at h1;obtain⟨j,hj,e⟩:=Option.map_eq_some_iff.1 h1;exact⟨j,hj,e⟩
 refine⟨H.keep,fun i r hi=>?_,fun i k r s hik hi hk=>?_⟩
 ·obtain⟨j,_,e⟩:=key i r hi;exact H.all j r e
 ·obtain⟨j,hj,e⟩:=key i r hi;obtain⟨m,hm,e'⟩:=key k s hk;refine H.apart j m r s (fun ejm=>hik ?_) e e'
  subst ejm;obtain⟨h1,h1'⟩:=List.getElem?_eq_some_iff.1 hj;obtain⟨h2,h2'⟩:=List.getElem?_eq_some_iff.1 hm;exact(List.getElem_inj hn).1 (h1'.trans h2'.symm)
theorem HoldG.rest (H:HoldG M w0 W l) {i:Nat} {r:Res} (hi:At l i r) (S:World→Prop) (hS:∀ V:World,(∀ b,r.foot b→V.heap[b]?=W.heap[b]?)→S V):HoldG M w0 W (l.set i (.kn r.foot S)):=by
 have hil:i<l.length:=(List.getElem?_eq_some_iff.1 hi.get).1;refine⟨H.keep,fun j s hs=>?_,fun j k s t hjk hs ht=>?_⟩
 ·rw[List.getElem?_set]at hs;split at hs
  ·rename_i e;subst e;cases hs
   exact⟨fun b hb=>(H.all i r hi.get).ltf b hb,hS⟩
  ·exact H.all j s hs
 ·rw[List.getElem?_set]at hs ht;split at hs
  ·rename_i e;subst e;cases hs
   intro b hb;cases hb
  ·split at ht
   ·rename_i _ e;subst e;cases ht
    exact H.apart j i s r hjk hs hi.get
   ·exact H.apart j k s t hjk hs ht
end
def RdN (sz:Nat) (W:World) (F:Nat→Prop) (s:Value) (rows:List (Array Value)):Prop :=
 ∃ p cap,s=.slice p rows.length cap∧rows.length≤cap∧cap≤maxLen∧(p=none→cap=0) ∧
  ∀ (j:Nat) (r:Array Value),rows[j]?=some r→∃ b off,p=some ⟨b,off,none⟩∧F b∧r.size=sz∧∀ k,k<sz→W.cell? ⟨b,off+j * sz+k,none⟩=r[k]?
theorem RdN.kept {sz:Nat} {W V:World} {F:Nat→Prop} {s:Value} {rows:List (Array Value)} (h:RdN sz W F s rows) (hk:∀ b,F b→V.heap[b]?=W.heap[b]?):RdN sz V F s rows:=by
 obtain⟨p,cap,e,h1,h2,h0,h3⟩:=h;refine⟨p,cap,e,h1,h2,h0,fun j r hj=>?_⟩
 obtain⟨b,off,e1,e2,e3,e4⟩:=h3 j r hj;refine⟨b,off,e1,e2,e3,fun k hk'=>?_⟩
 rw[← e4 k hk'];simp[World.cell?,hk b e2]
theorem RdN.mono {sz:Nat} {W:World} {F G:Nat→Prop} {s:Value} {rows:List (Array Value)} (h:RdN sz W F s rows) (hFG:∀ b,F b→G b):RdN sz W G s rows:=by
 obtain⟨p,cap,e,h1,h2,h0,h3⟩:=h;exact⟨p,cap,e,h1,h2,h0,fun j r hj=>let ⟨b,off,e1,e2,e3⟩:=h3 j r hj;⟨b,off,e1,hFG b e2,e3⟩⟩
theorem RdN.nil (sz:Nat) (W:World) (F:Nat→Prop) (p:Option Addr):RdN sz W F (.slice p 0 0) []:=⟨p,0,rfl,Nat.le_refl _,by simp,fun _=>rfl,fun j r h=>by simp at h⟩
def zAQ (rows:List (Array Value)):List Value:=(rows.map Array.toList).flatten
theorem zBm (rows rows':List (Array Value)):zAQ (rows++rows')=zAQ rows++zAQ rows':=by simp[zAQ]
theorem zI2 (r:Array Value):zAQ [r]=r.toList:=by simp[zAQ]
theorem zB1 {sz:Nat}:∀ {rows:List (Array Value)},(∀ r ∈ rows,r.size=sz)→(zAQ rows).length=rows.length * sz
 | [],_=>by simp[zAQ]
 | r::rows,h=>by
  have ih:=zB1 (rows:=rows) (fun r hr=>h r (List.mem_cons_of_mem _ hr))
  have h1:=h r (List.mem_cons_self ..);simp only[zAQ,List.map_cons,List.flatten_cons,List.length_append,List.length_cons]at *;rw[ih,Array.length_toList,h1,Nat.succ_mul];omega
theorem zDd {sz:Nat}:∀ {rows:List (Array Value)},(∀ r ∈ rows,r.size=sz)→∀ {j:Nat} {r:Array Value} {k:Nat},rows[j]?=some r→k<sz→(zAQ rows)[j * sz+k]?=r[k]?
 | [],_,_,_,_,h,_=>by simp at h
 | q::rows,hs,0,r,k,h,hk=>by
  simp at h;subst h;have h1:=hs q (List.mem_cons_self ..);simp only[zAQ,List.map_cons,List.flatten_cons];rw[Nat.zero_mul,Nat.zero_add,List.getElem?_append_left (by simp;omega)]
  simp
 | q::rows,hs,j+1,r,k,h,hk=>by
  have h1:=hs q (List.mem_cons_self ..);have ih:=zDd (rows:=rows) (fun r hr=>hs r (List.mem_cons_of_mem _ hr)) (j:=j) (r:=r) (k:=k) (by simpa using h) hk
  simp only[zAQ,List.map_cons,List.flatten_cons]at *;rw[Nat.succ_mul,List.getElem?_append_right (by simp;omega),← ih]
  simp only[Array.length_toList,h1]
  congr 1;omega
theorem RdN.of_own {sz:Nat} {w V:World} {base:Nat} {e:TypeId} {v:Value} {n:Nat} {rows:List (Array Value)} (h:w.ownsRow base e sz v n (zAQ rows)) (hs:∀ r ∈ rows,r.size=sz) (hl:rows.length=n)
  (hk:∀ b,v.ownBlock=some b→V.heap[b]?=w.heap[b]?):RdN sz V (fun b=>v.ownBlock=some b) v rows:=by
 subst hl;obtain⟨_,⟨rfl,hn⟩|⟨g,cap,cur,rfl,hb,hg,hn,hc,hsz,ht⟩⟩:=h
 ·rw[List.length_eq_zero_iff.1 hn];exact RdN.nil ..
 ·refine⟨_,cap,rfl,hn,hc,(fun h=>by cases h),fun j r hj=>⟨g,0,rfl,rfl,hs r (List.mem_of_getElem? hj),fun k hk'=>?_⟩⟩
  have hg':V.heap[g]?=some (.cells cur e (0,0)):=(hk g rfl).trans hg;have hlt:=(List.getElem?_eq_some_iff.1 hj).1;rw[cell_of_row V g (0+j * sz+k) cur e (0,0) hg',Nat.zero_add,← zDd hs hj hk',← ht,List.getElem?_take,if_pos,Array.getElem?_toList];have:(j+1) * sz≤rows.length * sz:=Nat.mul_le_mul_right _ hlt;rw[Nat.succ_mul]at this;omega
section
variable {P:Program} {ops:Array Oper} {rest:List Oper} {o:Oper} {a:Act} {w w0:World} {Q:Exit→Act→World→Prop} {l:List Res} {M:Nat→Prop}
theorem zKL {T:TypeId} {b k n:Nat} {vs:Array Value} (hT:rowB P T n=true) (hn:vs.size=n) (hv:∀ j,j<n→w.cell? ⟨b,k+j,none⟩=vs[j]?):(loadVar T ⟨b,k,none⟩).run P w=.ok (.agg vs) w:=by
 obtain⟨d,hu,hd,hs⟩:=zFy hT
 have:=run_loadVar_mid (P:=P) w b k T vs.toList d (fun j v hj=>by
  have hlt:j<n:=by have:=(List.getElem?_eq_some_iff.1 hj).1;simp at this;omega
  rw[hv j hlt];simpa using hj) hu hd (by rw[hs];simp[hn])
 simpa using this
theorem zBc {T:TypeId} {x:Operand} (ho:o.op=.load T x) {b k n:Nat} (hx:a.eval x=.pointer (some ⟨b,k,none⟩)) {vs:Array Value} (hT:rowB P T n=true) (hn:vs.size=n) (hv:∀ j,j<n→w.cell? ⟨b,k+j,none⟩=vs[j]?) :
  (execOp a.eval o).run P w=.ok (.value (.agg vs)) w:=by
 unfold execOp;simp only[ho,hx,Instr.loadAt,Instr.sureAddr,Sem.run_bind,Sem.run_pure,Result.andThen_ok,zKL hT hn hv]
theorem zDi (hg:Region.wanted o (yielded ops a.tmps)=true) (T:TypeId) (x:Operand) (ho:o.op=.load T x) {b k n:Nat} (hx:a.eval x=.pointer (some ⟨b,k,none⟩)) {vs:Array Value} (hT:rowB P T n=true) (hn:vs.size=n) (hv:∀ j,j<n→w.cell? ⟨b,k+j,none⟩=vs[j]?)
  (h:wpList P ops Q rest (a.put o.dst (.agg vs)) w):wpList P ops Q (o::rest) a w :=
 zAu hg (zBc ho hx hT hn hv) h
theorem zAT {T:TypeId} {x:Operand} (ho:o.op=.load T x) {ad:Addr} (hx:a.eval x=.pointer (some ad)) (hT:oneB P T=true) {v:Value} (hv:w.cell? ad=some v) :
  (execOp a.eval o).run P w=.ok (.value v) w:=by
 unfold execOp;simp only[ho,hx,Instr.loadAt,Instr.sureAddr,Sem.run_bind,Sem.run_pure,Result.andThen_ok,zBH hT hv]
theorem zAP (hg:Region.wanted o (yielded ops a.tmps)=true) (T:TypeId) (x:Operand) (ho:o.op=.load T x) {ad:Addr} (hx:a.eval x=.pointer (some ad)) (hT:oneB P T=true) {v:Value} (hv:w.cell? ad=some v)
  (h:wpList P ops Q rest (a.put o.dst v) w):wpList P ops Q (o::rest) a w :=
 zAu hg (zAT ho hx hT hv) h
theorem HoldG.rowCell (H:HoldG M w0 w l) {i g n cap sz:Nat} {e:TypeId} {rows:List (Array Value)} (hi:At l i (.row (.slice (some ⟨g,0,none⟩) n cap) e sz n (zAQ rows))) (hs:∀ r ∈ rows,r.size=sz) (hl:rows.length=n) {j:Nat} {r:Array Value} (hj:rows[j]?=some r) {q:Nat} (hq:j * sz=q) :
  ∀ k,k<sz→w.cell? ⟨g,q+k,none⟩=r[k]?:=by
 subst hq;intro k hk;have h:=RdN.of_own (V:=w) (H.all i _ hi.get) hs hl (fun _ _=>rfl)
 obtain⟨p,c,e1,_,_,_,h3⟩:=h;obtain⟨b,off,e2,_,_,h4⟩:=h3 j r hj
 cases e1;cases e2
 have:=h4 k hk
 rwa [Nat.zero_add]at this
theorem zMH:∀ (vs:List Value) (cs:Array Value) (k:Nat),(zAe cs k vs).size=cs.size
 | [],_,_=>rfl
 | v::r,cs,k=>by
  show (zAe (cs.setIfInBounds k v) (k+1) r).size=_
  rw[zMH r];simp
theorem zMs {sz:Nat} {rows:List (Array Value)} (hs:∀ r ∈ rows,r.size=sz) {vs:Array Value} (hv:vs.size=sz) {i:Nat} (hi:i<rows.length):(zAe (zAQ rows).toArray (i * sz) vs.toList).toList=zAQ (rows.set i vs):=by
 have hs':∀ r ∈ rows.set i vs,r.size=sz:=fun r hr=>(List.mem_or_eq_of_mem_set hr).elim (hs r) (fun e=>e ▸ hv)
 have hz:0<sz∨sz=0:=by omega
 apply List.ext_getElem?;intro j;rw[Array.getElem?_toList,zD0];simp only[Array.length_toList,List.size_toArray,List.getElem?_toArray,hv,zB1 hs];rcases hz with hz|hz
 ·by_cases hj:j<rows.length * sz
  ·have hd:j=j / sz * sz+j % sz:=by rw[Nat.mul_comm];exact(Nat.div_add_mod j sz).symm
   have hm:j % sz<sz:=Nat.mod_lt _ hz;have hq:j / sz<rows.length:=Nat.div_lt_of_lt_mul (by rw[Nat.mul_comm];exact hj)
   by_cases e:j / sz=i
   ·rw[if_pos ⟨by rw[← e];omega,by rw[← e];omega,hj⟩]
    have h2:=zDd hs' (j:=i) (r:=vs) (k:=j % sz) (by rw[List.getElem?_set];simp[hi]) hm
    rw[show i * sz+j % sz=j from by rw[← e];omega]at h2
    rw[h2,Array.getElem?_toList,show j - i * sz=j % sz from by rw[← e];omega]
   ·rw[if_neg (fun h=>e (by
     have h1:=h.1;have h2:=h.2.1;have a1:i≤j / sz:=(Nat.le_div_iff_mul_le hz).2 h1;have a2:j / sz<i+1:=Nat.div_lt_of_lt_mul (by rw[Nat.mul_comm,Nat.succ_mul];exact h2)
     omega))]
    have hr:rows[j / sz]?=some rows[j / sz]:=List.getElem?_eq_getElem hq;have h1:=zDd hs hr hm;have h2:=zDd hs' (j:=j / sz) (r:=rows[j / sz]) (k:=j % sz) (by rw[List.getElem?_set,if_neg (fun e'=>e e'.symm)];exact hr) hm
    rw[← hd]at h1 h2;rw[h1,h2]
  ·rw[if_neg (fun h=>hj h.2.2),List.getElem?_eq_none (by rw[zB1 hs];omega),List.getElem?_eq_none (by rw[zB1 hs',List.length_set];omega)]
 ·subst hz;have e1:zAQ rows=[]:=List.length_eq_zero_iff.1 (by rw[zB1 hs,Nat.mul_zero])
  have e2:zAQ (rows.set i vs)=[]:=List.length_eq_zero_iff.1 (by rw[zB1 hs',Nat.mul_zero])
  rw[e1,e2];simp
theorem zAK (hg:Region.wanted o (yielded ops a.tmps)=true) (T:TypeId) (x y:Operand) (ho:o.op=.store T x y) {g i sz n cap q:Nat} (hx:a.eval x=.pointer (some ⟨g,q,none⟩)) (hq:i * sz=q) {vs:Array Value} (hy:a.eval y=.agg vs) (H:HoldG M w0 w l) {j:Nat} {e:TypeId} {rows:List (Array Value)}
  (hi:At l j (.row (.slice (some ⟨g,0,none⟩) n cap) e sz n (zAQ rows))) (hs:∀ r ∈ rows,r.size=sz) (hl:rows.length=n)
  (hT:zDJ P T sz=true) (hv:vs.size=sz) (h1:vs.toList.all (·.oneCell')=true) (hin:i<n) (h:∀ w',HoldG M w0 w' (l.set j (.row (.slice (some ⟨g,0,none⟩) n cap) e sz n (zAQ (rows.set i vs))))→wpList P ops Q rest (a.put o.dst undef) w'):wpList P ops Q (o::rest) a w :=
 zAm hg fun _ hK=>by
  subst hq hl;have hs':∀ r ∈ rows.set i vs,r.size=sz:=fun r hr=>(List.mem_or_eq_of_mem_set hr).elim (hs r) (fun e=>e ▸ hv)
  obtain⟨hlen,⟨hv',_⟩|⟨g',cap',cur,hv',hb,hg',hn,hc,hsz,ht⟩⟩:=H.all j _ hi.get
  ·cases hv'
  ·cases hv'
   have hm1:(i+1) * sz≤rows.length * sz:=Nat.mul_le_mul_right _ hin;have hm2:rows.length * sz≤cap * sz:=Nat.mul_le_mul_right _ hn;have hm3:(i+1) * sz=i * sz+sz:=Nat.succ_mul i sz;have hth:w.there g (i * sz) vs.size:=fun q hq=>by
    rw[cell_of_row w g (i * sz+q) cur e (0,0) hg'];simp[World.frozen?,hg'];omega
   unfold Oper.wp execOp;simp only[ho,hx,hy,Instr.storeAt,Instr.sureAddr,Sem.run_bind,Sem.run_pure,Result.andThen_ok,run_storeVar_mid (P:=P) w g (i * sz) T vs hth (by subst hv;simpa [zDJ] using hT) (by rw[Array.all_toList]at h1;exact h1)]
   have hh:=zDX vs.toList (i * sz) w g cur e _ hg';refine hK _ _ (h _ (H.upd hi.get (zC9 vs.toList (i * sz) w g) ⟨?_,.inr ⟨g,cap,_,rfl,hb,hh,hn,hc,?_,?_⟩⟩ (fun _ e=>.inl e)))
   ·rw[zB1 hs',List.length_set]
   ·rw[zMH,hsz]
   ·rw[← zMs hs hv hin];have hfl:(zAQ rows).length=rows.length * sz:=zB1 hs;apply List.ext_getElem?;intro q;rw[List.getElem?_take,Array.getElem?_toList,Array.getElem?_toList,zD0,zD0];simp only[Array.length_toList,List.size_toArray,List.getElem?_toArray,hfl,hsz];have hcur:q<rows.length * sz→cur[q]?=(zAQ rows)[q]?:=fun hq=>by
     rw[← ht,List.getElem?_take,if_pos hq,Array.getElem?_toList]
    by_cases hq:q<rows.length * sz
    ·rw[if_pos hq]
     by_cases hc1:i * sz≤q∧q<i * sz+vs.size∧q<cap * sz
     ·rw[if_pos hc1,if_pos ⟨hc1.1,hc1.2.1,hq⟩]
     ·rw[if_neg hc1,if_neg (fun h'=>hc1 ⟨h'.1,h'.2.1,by omega⟩),hcur hq]
    ·rw[if_neg hq,if_neg (fun h'=>hq h'.2.2),List.getElem?_eq_none (by omega)]
end
theorem zJx {w:World} {base:Nat} {e:TypeId} {sz g n cap m:Nat} {xs:List Value} (h:w.ownsRow base e sz (.slice (some ⟨g,0,none⟩) n cap) n xs) (hm:m≤n):w.ownsRow base e sz (.slice (some ⟨g,0,none⟩) m cap) m (xs.take (m * sz)):=by
 have hmn:m * sz≤n * sz:=Nat.mul_le_mul_right _ hm;obtain⟨hl,⟨hv,_⟩|⟨g',cap',cur,hv,hb,hg,hn,hc,hsz,ht⟩⟩:=h
 ·cases hv
 ·cases hv
  refine⟨by rw[List.length_take];omega,.inr ⟨g,cap,cur,rfl,hb,hg,by omega,hc,hsz,?_⟩⟩
  rw[← ht,List.take_take,Nat.min_eq_left hmn]
section
variable {M:Nat→Prop} {w0 w:World} {l:List Res}
theorem HoldG.cutRow (H:HoldG M w0 w l) {i g n cap m sz:Nat} {e:TypeId} {xs:List Value} (hi:At l i (.row (.slice (some ⟨g,0,none⟩) n cap) e sz n xs)) (hm:m≤n):HoldG M w0 w (l.set i (.row (.slice (some ⟨g,0,none⟩) m cap) e sz m (xs.take (m * sz)))) :=
 H.upd hi.get ⟨rfl,rfl,rfl,Nat.le_refl _,fun _ _ _=>rfl⟩ (zJx (H.all i _ hi.get) hm) (fun _ e=>.inl e)
theorem HoldG.rowShape (H:HoldG M w0 w l) {i n sz:Nat} {e:TypeId} {v:Value} {xs:List Value} (hi:At l i (.row v e sz n xs)):∃ q cap,v=.slice q n cap∧n≤cap∧cap≤maxLen∧(0<n→∃ g,q=some ⟨g,0,none⟩):=by
 obtain⟨_,⟨hv,hn⟩|⟨g,cap,cur,hv,_,_,hn,hc,_⟩⟩:=H.all i _ hi.get
 ·exact⟨none,0,by rw[hv,hn],by omega,by simp,fun h=>by omega⟩
 ·exact⟨_,cap,hv,hn,hc,fun _=>⟨g,rfl⟩⟩
end
section
variable {M:Nat→Prop} {w0 W:World} {l:List Res}
theorem HoldG.restG (H:HoldG M w0 W l) {i:Nat} {r:Res} (hi:At l i r) (G:Nat→Prop) (S:World→Prop) (hG:∀ b,G b→r.foot b∨∃ (j:Nat) (s:Res),l[j]?=some s∧s.place=none∧s.foot b) (hS:∀ V:World,(∀ b,G b→V.heap[b]?=W.heap[b]?)→S V):HoldG M w0 W (l.set i (.kn G S)):=by
 have hil:i<l.length:=(List.getElem?_eq_some_iff.1 hi.get).1;refine⟨H.keep,fun j s hs=>?_,fun j k s t hjk hs ht=>?_⟩
 ·rw[List.getElem?_set]at hs;split at hs
  ·rename_i e;subst e;cases hs
   refine⟨fun b hb=>?_,hS⟩
   rcases hG b hb with h|⟨j,s,hj,_,h⟩
   ·exact(H.all _ r hi.get).ltf b h
   ·exact(H.all j s hj).ltf b h
  ·exact H.all j s hs
 ·rw[List.getElem?_set]at hs ht;split at hs
  ·rename_i e;subst e;cases hs
   intro b hb;cases hb
  ·rename_i hne;split at ht
   ·rename_i e;subst e;cases ht
    intro b hb hf;rcases hG b hf with h|⟨z,u,hz,hu,h⟩
    ·exact H.apart j i s r hjk hs hi.get b hb h
    ·by_cases e:j=z
     ·subst e;rw[hs]at hz;cases hz;rw[hu]at hb;cases hb
     ·exact H.apart j z s u e hs hz b hb h
   ·exact H.apart j k s t hjk hs ht
end
structure NodeD where
 kind:Int
 set:Nat→Nat:=zAM
 lo:Int:=0
 hi:Int:=0
 lazy:Bool:=false
 group:Int:=0
inductive Tree where
 | mk (d:NodeD) (kids:List Tree)
def Tree.d:Tree→NodeD|.mk d _=>d
def Tree.kids:Tree→List Tree|.mk _ k=>k
mutual
def zBJ:Tree→Nat
 | .mk _ ks=>1+zAw ks
def zAw:List Tree→Nat
 | []=>0
 | t::r=>zBJ t+zAw r
end
mutual
def zFN:Tree→Nat
 | .mk _ ks=>zCy ks+1
def zCy:List Tree→Nat
 | []=>0
 | t::r=>max (zFN t) (zCy r)
end
theorem zGR (t:Tree):zBJ t=1+zAw t.kids:=by cases t;simp[zBJ,Tree.kids]
theorem zKP (t:Tree):zFN t=zCy t.kids+1:=by cases t;simp[zFN,Tree.kids]
theorem zGq (t:Tree):0<zBJ t:=by rw[zGR];omega
theorem zBI:∀ (a b:List Tree),zAw (a++b)=zAw a+zAw b
 | [],b=>by simp[zAw]
 | t::r,b=>by simp only[List.cons_append,zAw];rw[zBI r b];omega
theorem zCj (t:Tree):zAw [t]=zBJ t:=by simp[zAw]
theorem zFf {α:Type} {l:List α} {i:Nat} {x:α} (h:l[i]?=some x):l.take (i+1)=l.take i++[x]:=by
 rw[List.take_add_one,h];rfl
theorem zJl {ts:List Tree} {i:Nat} {t:Tree} (h:ts[i]?=some t):zAw (ts.take (i+1))=zAw (ts.take i)+zBJ t:=by
 rw[zFf h,zBI,zCj]
theorem zHc {ts:List Tree} {i:Nat} {t:Tree} (h:ts[i]?=some t):zAw (ts.take i)+zBJ t≤zAw ts:=by
 rw[← zJl h]
 conv=>rhs;rw[← List.take_append_drop (i+1) ts,zBI]
 omega
theorem zHz:∀ ts:List Tree,ts.length≤zAw ts
 | []=>by simp
 | t::r=>by have:=zHz r;have:=zGq t;simp only[List.length_cons,zAw];omega
mutual
theorem zJP:∀ t:Tree,zFN t≤zBJ t
 | .mk d ks=>by have:=zHV ks;simp only[zFN,zBJ];omega
theorem zHV:∀ ts:List Tree,zCy ts≤zAw ts
 | []=>by simp[zCy]
 | t::r=>by have:=zJP t;have:=zHV r;simp only[zCy,zAw];omega
end
def zAH (d:NodeD) (s:Value):Array Value:=#[.int .i64 d.kind,.int .u64 (d.set 0),.int .u64 (d.set 1),.int .u64 (d.set 2),.int .u64 (d.set 3),s,.int .i64 d.lo,.int .i64 d.hi,.bool d.lazy,.int .i64 d.group]
theorem ng0 (d:NodeD) (s:Value):(zAH d s)[0]?=some (.int .i64 d.kind):=rfl
theorem ng5 (d:NodeD) (s:Value):(zAH d s)[5]?=some s:=rfl
theorem ng6 (d:NodeD) (s:Value):(zAH d s)[6]?=some (.int .i64 d.lo):=rfl
theorem ng7 (d:NodeD) (s:Value):(zAH d s)[7]?=some (.int .i64 d.hi):=rfl
theorem ng8 (d:NodeD) (s:Value):(zAH d s)[8]?=some (.bool d.lazy):=rfl
theorem ng9 (d:NodeD) (s:Value):(zAH d s)[9]?=some (.int .i64 d.group):=rfl
abbrev zAf (d:NodeD) (s:Value):Value:=.agg (zAH d s)
abbrev nilS:Value:=.slice none 0 0
abbrev TV:=Tree × Option Addr × Nat
abbrev zAj (x:TV):Array Value:=zAH x.1.d (.slice x.2.1 x.1.kids.length x.2.2)
theorem zDb (x:TV):(zAj x).size=10:=rfl
theorem zBp (xs:List TV):∀ r ∈ xs.map zAj,r.size=10:=by
 intro r hr;obtain⟨x,_,rfl⟩:=List.mem_map.1 hr;rfl
inductive ForestR (W:World) (F:Nat→Prop):Option Addr→Nat→List Tree→Prop where
 | mk (p:Option Addr) (c:Nat) (ts:List Tree) (xs:List TV) (h:RdN 10 W F (.slice p ts.length c) (xs.map zAj)) (hk:∀ x ∈ xs,ForestR W F x.2.1 x.2.2 x.1.kids) (e:ts=xs.map (·.1)):ForestR W F p c ts
theorem ForestR.kept {W V:World} {F:Nat→Prop} {p:Option Addr} {c:Nat} {ts:List Tree} (h:ForestR W F p c ts) (hk:∀ b,F b→V.heap[b]?=W.heap[b]?):ForestR V F p c ts:=by
 induction h with
 | mk p c ts xs h _ e ih=>exact .mk p c ts xs (h.kept hk) ih e
theorem ForestR.mono {W:World} {F G:Nat→Prop} {p:Option Addr} {c:Nat} {ts:List Tree} (h:ForestR W F p c ts) (hFG:∀ b,F b→G b):ForestR W G p c ts:=by
 induction h with
 | mk p c ts xs h _ e ih=>exact .mk p c ts xs (h.mono hFG) ih e
theorem ForestR.nil (W:World) (F:Nat→Prop) (p:Option Addr):ForestR W F p 0 []:=.mk _ _ _ [] (RdN.nil ..) (fun _ h=>by cases h) rfl
def ListR (W:World) (F:Nat→Prop) (xs:List TV):Prop:=∀ x ∈ xs,ForestR W F x.2.1 x.2.2 x.1.kids
theorem ListR.kept {W V:World} {F:Nat→Prop} {xs:List TV} (h:ListR W F xs) (hk:∀ b,F b→V.heap[b]?=W.heap[b]?):ListR V F xs:=fun x hx=>(h x hx).kept hk
theorem ListR.mono {W:World} {F G:Nat→Prop} {xs:List TV} (h:ListR W F xs) (hFG:∀ b,F b→G b):ListR W G xs:=fun x hx=>(h x hx).mono hFG
theorem ListR.append {W:World} {F:Nat→Prop} {xs ys:List TV} (h:ListR W F xs) (k:ListR W F ys):ListR W F (xs++ys):=fun x hx=>(List.mem_append.1 hx).elim (h x) (k x)
theorem ListR.nil (W:World) (F:Nat→Prop):ListR W F []:=fun _ h=>by cases h
theorem ListR.one {W:World} {F:Nat→Prop} {t:Tree} {p:Option Addr} {c:Nat} (h:ForestR W F p c t.kids):ListR W F [(t,p,c)]:=fun x hx=>by
 rw[List.mem_singleton]at hx;subst hx;exact h
theorem ForestR.open {W:World} {F:Nat→Prop} {p:Option Addr} {c:Nat} {ts:List Tree} (h:ForestR W F p c ts):∃ xs:List TV,RdN 10 W F (.slice p xs.length c) (xs.map zAj)∧ListR W F xs∧ts=xs.map (·.1):=by
 cases h with
 | mk p c ts xs h hk e =>
  have hl:ts.length=xs.length:=by rw[e,List.length_map]
  rw[hl]at h;exact⟨xs,h,hk,e⟩
def zFw (w:World) (G:Nat→Prop) (t:Tree) (e:Ending) (w':World):Prop :=
 ∃ p c F,e=.returned (zAf t.d (.slice p t.kids.length c))∧ForestR w' F p c t.kids∧∀ b,F b→b<w'.heap.size∧(w.heap.size≤b∨G b)
def zGB (s:Nat→Nat):Nat→(Nat→Nat)
 | 0=>s
 | n+1=>if hasB s (97+n) || hasB s (65+n) then addS (addS (zGB s n) (97+n)) (65+n) else zGB s n
def zDl (s:Nat→Nat):Nat→Nat:=zGB s 26
theorem zFO {s:Nat→Nat} (hs:zA1 s):∀ n,zA1 (zGB s n)
 | 0=>hs
 | n+1=>by
  unfold zGB;split
  ·exact zG2 (zG2 (zFO hs n) _) _
  ·exact zFO hs n
abbrev zAW:=Bool × Bool × Bool
def zEU (f:zAW):Array Value:=#[.bool f.1,.bool f.2.1,.bool f.2.2]
abbrev zDL (f:zAW):Value:=.agg (zEU f)
def zDk (k:Int):Tree:=.mk {kind:=k} []
def rowT (k:Int) (ts:List Tree):Tree:=match ts with
 | []=>zDk 1
 | [t]=>t
 | _=>.mk {kind:=k} ts
def zFG (f:zAW) (w:WordD):zAW:=((f.1 || w.on.1)&&!w.off.1,(f.2.1 || w.on.2.1)&&!w.off.2.1,(f.2.2 || w.on.2.2)&&!w.off.2.2)
def setT (s:Nat→Nat):Tree:=if eqS s zAM then zDk 2 else .mk {kind:=3,set:=s} []
def zFE (f:zAW) (a b:Int):Tree:=zDk (if f.2.1 then b else a)
def zCl (w:WordD) (f:zAW):Tree :=
 if w.kind=1 then
  let s:=if f.1 then zDl w.set else w.set
  setT (if w.neg then notS s else s)
 else if w.kind=2 then (if f.2.2 then setT (zAy 0 256) else setT (notS (ofS [10])))
 else if w.kind=3 then zFE f 8 10
 else if w.kind=4 then zFE f 9 11
 else zDk w.spot
def zBC (w:WordD):Bool:=w.kind == 6 || w.kind == 7
def repT (w:WordD) (t:Tree):Tree:=.mk {kind:=6,lo:=w.lo,hi:=w.hi,lazy:=w.lazy} [t]
def zDK (k:Nat) (t:Tree):Tree:=.mk {kind:=7,group:=k} [t]
def zAz:Nat→zAW→List WordD→Nat→List Tree→List Tree→Option (Tree × List WordD × Nat)
 | 0,_,_,_,_,_=>none
 | _+1,_,[],g,all,items=>some (rowT 5 (all++[rowT 4 items]),[],g)
 | n+1,f,w::r,g,all,items =>
  if w.kind=9 then some (rowT 5 (all++[rowT 4 items]),w::r,g)
  else if w.kind=8 then zAz n (zFG f w) r g all items
  else if w.kind=10 then zAz n f r g (all++[rowT 4 items]) []
  else if w.kind=11 then
   match items.getLast? with
   | none=>none
   | some last=>zAz n f r g all (items.dropLast++[repT w last])
  else if w.kind=7 then
   match zAz n (zFG f w) r g [] [] with
   | some (t,_::r',g')=>zAz n f r' g' all (items++[t])
   | _=>none
  else if w.kind=6 then
   match zAz n f r (g+1) [] [] with
   | some (t,_::r',g')=>zAz n f r' g' all (items++[zDK (g+1) t])
   | _=>none
  else zAz n f r g all (items++[zCl w f])
def zAg:Bool→List Nat→List WordD→Option Nat
 | _,open_,[]=>open_.getLast?
 | bare,open_,w::r =>
  if w.kind=11∧bare=true∨w.kind=9∧open_=[] then some w.place
  else
   let o:=if zBC w then open_++[w.place] else open_
   zAg (zBC w || w.kind == 8 || w.kind == 10 || w.kind == 11) (if w.kind=9 then o.dropLast else o) r
def zCc (l:List WordD):Option Nat:=zAg true [] l
end
section
open Go.RowKit Go.Shelf
theorem zAR:oneB Tryd.prog 3=true:=by kernel_rfl
theorem zAi:oneB Tryd.prog 4=true:=by kernel_rfl
theorem zAp:oneB Tryd.prog 9=true:=by kernel_rfl
theorem zAn:oneB Tryd.prog 25=true:=by kernel_rfl
theorem zAh:rowB Tryd.prog 28 4=true:=by kernel_rfl
theorem zSet:zCL Tryd.prog 28=setC zAM:=by kernel_rfl
theorem zAX:oneB Tryd.prog 54=true:=by kernel_rfl
theorem zBe:rowB Tryd.prog 65 17=true:=by kernel_rfl
theorem zPt:zCL Tryd.prog 65=zAo {kind:=0,place:=0}:=by kernel_rfl
theorem zCg:oneB Tryd.prog 80=true:=by kernel_rfl
theorem zAc:oneB Tryd.prog 47=true:=by kernel_rfl
theorem zAU:oneB Tryd.prog 32=true:=by kernel_rfl
theorem zAI:oneB Tryd.prog 29=true:=by kernel_rfl
theorem zAN:rowB Tryd.prog 31 10=true:=by kernel_rfl
theorem zA9:rowB Tryd.prog 23 3=true:=by kernel_rfl
theorem zPy:zCL Tryd.prog 31=zAH {kind:=0} nilS:=by kernel_rfl
theorem zP8:zCL Tryd.prog 23=zEU (false,false,false):=by kernel_rfl
theorem zQK:zCL Tryd.prog 47=#[.slice none 0 0]:=by kernel_rfl
theorem zInt:zCL Tryd.prog 3=#[.int .i64 0]:=by kernel_rfl
theorem zQD:zCL Tryd.prog 32=#[.int .i64 0]:=by kernel_rfl
theorem zPtr:zCL Tryd.prog 80=#[.pointer none]:=by kernel_rfl
theorem nrm:zCL Tryd.prog 28=setC zAM∧zCL Tryd.prog 65=zAo {kind:=0,place:=0}∧zCL Tryd.prog 31=zAH {kind:=0} nilS∧zCL Tryd.prog 23=zEU (false,false,false)∧zCL Tryd.prog 47=#[.slice none 0 0]∧zCL Tryd.prog 3=#[.int .i64 0]∧zCL Tryd.prog 32=#[.int .i64 0]∧zCL Tryd.prog 80=#[.pointer none]:=⟨zSet,zPt,zPy,zP8,zQK,zInt,zQD,zPtr⟩
theorem nrl {α:Type}:(∀ (a:α) (l r:List α),a::l++r=a::(l++r))∧(∀ l:List α,[]++l=l)∧(∀ l:List α,l++[]=l)∧(∀ (a b:α) (l:List α),(a::l).set 0 b=b::l)∧(∀ (a b:α) (l:List α) (n:Nat),(a::l).set (n+1) b=a::l.set n b)∧∀ (a:α) (l:List α) (n:Nat),l.toArray.setIfInBounds n a=(l.set n a).toArray :=
 ⟨fun _ _ _=>rfl,fun _=>rfl,List.append_nil,fun _ _ _=>rfl,fun _ _ _ _=>rfl,fun _ _ _=>List.setIfInBounds_toArray ..⟩
theorem nr:(zCL Tryd.prog 28=setC zAM∧zCL Tryd.prog 65=zAo {kind:=0,place:=0}∧zCL Tryd.prog 31=zAH {kind:=0} nilS∧zCL Tryd.prog 23=zEU (false,false,false)∧zCL Tryd.prog 47=#[.slice none 0 0]∧zCL Tryd.prog 3=#[.int .i64 0]∧zCL Tryd.prog 32=#[.int .i64 0]∧zCL Tryd.prog 80=#[.pointer none])∧(∀ {α:Type},(∀ (a:α) (l r:List α),a::l++r=a::(l++r))∧(∀ l:List α,[]++l=l)∧(∀ l:List α,l++[]=l)∧(∀ (a b:α) (l:List α),(a::l).set 0 b=b::l)∧(∀ (a b:α) (l:List α) (n:Nat),(a::l).set (n+1) b=a::l.set n b)∧∀ (a:α) (l:List α) (n:Nat),l.toArray.setIfInBounds n a=(l.set n a).toArray)∧(∀ (k:IntKind) (n:Int),(Value.int k n).cells=#[Value.int k n])∧(∀ (b:Bool),(Value.bool b).cells=#[Value.bool b])∧(∀ (s:ByteArray),(Value.string s).cells=#[Value.string s])∧(∀ (p:Option Addr),(Value.pointer p).cells=#[Value.pointer p])∧(∀ (p:Option Addr) (n c:Nat),(Value.slice p n c).cells=#[Value.slice p n c])∧(∀ (r:Option Nat),(Value.map r).cells=#[Value.map r])∧∀ cs:Array Value,(Value.agg cs).cells=cs :=
 ⟨nrm,nrl,fun _ _=>rfl,fun _=>rfl,fun _=>rfl,fun _=>rfl,fun _ _ _=>rfl,fun _=>rfl,fun _=>rfl⟩
theorem ch {M:Nat→Prop} {P:Program} {f:FuncId} {args:Array Value} {w w0:World} {l:List Res} {e0:Ending} {R:Ending→World→Prop} (c:Calls P f args w fun e w'=>e=e0∧Below w.heap.size w w') (H:HoldG M w0 w l)
  (k:∀ w',HoldG M w0 w' l→R e0 w'):Calls P f args w R:=c.mono fun _ w' h=>h.1 ▸ k w' (H.call h.2)
section
variable {M:Nat→Prop} {ops:Array Oper} {dst:Option Tmp} {ty:TypeId} {pos:String} {aft:Array Edge} {grd:Option (Nat × Bool)} {rest:List Oper} {a:Act} {w w0:World} {l:List Res} {Q:Exit→Act→World→Prop}
theorem gT {T:TypeId} {x y:Operand} (h:wpList Tryd.prog ops Q ((⟨dst,.store T x y,ty,pos,aft,grd⟩:Oper)::rest) a w):wpList Tryd.prog ops Q ((⟨dst,.store T x y,ty,pos,aft,grd⟩:Oper)::rest) a w:=h
theorem gL {T:TypeId} {x:Operand} (h:wpList Tryd.prog ops Q ((⟨dst,.load T x,ty,pos,aft,grd⟩:Oper)::rest) a w):wpList Tryd.prog ops Q ((⟨dst,.load T x,ty,pos,aft,grd⟩:Oper)::rest) a w:=h
theorem gX {T:TypeId} {x:Operand} (h:wpList Tryd.prog ops Q ((⟨dst,.box T x,ty,pos,aft,grd⟩:Oper)::rest) a w):wpList Tryd.prog ops Q ((⟨dst,.box T x,ty,pos,aft,grd⟩:Oper)::rest) a w:=h
theorem gA {T:TypeId} (h:wpList Tryd.prog ops Q ((⟨dst,.alloc T,ty,pos,aft,grd⟩:Oper)::rest) a w):wpList Tryd.prog ops Q ((⟨dst,.alloc T,ty,pos,aft,grd⟩:Oper)::rest) a w:=h
theorem gZ {T:TypeId} {parts:Array (Nat × Operand)} (h:wpList Tryd.prog ops Q ((⟨dst,.build T parts,ty,pos,aft,grd⟩:Oper)::rest) a w):wpList Tryd.prog ops Q ((⟨dst,.build T parts,ty,pos,aft,grd⟩:Oper)::rest) a w:=h
theorem gI {T:TypeId} {x y:Operand} (h:wpList Tryd.prog ops Q ((⟨dst,.index T x y,ty,pos,aft,grd⟩:Oper)::rest) a w):wpList Tryd.prog ops Q ((⟨dst,.index T x y,ty,pos,aft,grd⟩:Oper)::rest) a w:=h
theorem gU {T:TypeId} {x y:Operand} (h:wpList Tryd.prog ops Q ((⟨dst,.slice T x none (some y) none,ty,pos,aft,grd⟩:Oper)::rest) a w):wpList Tryd.prog ops Q ((⟨dst,.slice T x none (some y) none,ty,pos,aft,grd⟩:Oper)::rest) a w:=h
theorem gE {T U:TypeId} {x y:Operand} (h:wpList Tryd.prog ops Q ((⟨dst,.binOp .eql T x y U,ty,pos,aft,grd⟩:Oper)::rest) a w):wpList Tryd.prog ops Q ((⟨dst,.binOp .eql T x y U,ty,pos,aft,grd⟩:Oper)::rest) a w:=h
theorem kgX (k:Tmp) {T:TypeId} {x:Operand} (h:wpList Tryd.prog ops Q ((⟨some k,.box T x,ty,pos,aft,grd⟩:Oper)::rest) a w):wpList Tryd.prog ops Q ((⟨some k,.box T x,ty,pos,aft,grd⟩:Oper)::rest) a w:=h
theorem kgA (k:Tmp) {T:TypeId} (h:wpList Tryd.prog ops Q ((⟨some k,.alloc T,ty,pos,aft,grd⟩:Oper)::rest) a w):wpList Tryd.prog ops Q ((⟨some k,.alloc T,ty,pos,aft,grd⟩:Oper)::rest) a w:=h
theorem aS (H:HoldG M w0 w l) {T:TypeId} {x y:Operand} {i b:Nat} {cs:Array Value} {U:TypeId} {s:Nat→Nat} (h:∀ w',HoldG M w0 w' (l.set i (.blk b (setC s) U))→wpList Tryd.prog ops Q rest (a.put dst undef) w') (hg:Region.wanted (⟨dst,.store T x y,ty,pos,aft,grd⟩:Oper) (yielded ops a.tmps)=true:=by first|rfl|exact zAr rfl (zAZ rfl (by first|rfl|(simp only[pe];rfl)))) (hx:a.eval x=.pointer (some ⟨b,0,none⟩):=by exact rfl) (hy:a.eval y=setV s:=by (try simp only[pe]);with_reducible rfl) (hi:At l i (.blk b cs U):=by repeat (first|(with_reducible exact At.zero)|apply At.succ)) (hT:zDJ Tryd.prog T 4=true:=by with_reducible exact zAb zAh) (hn:cs.size=4:=by rfl):wpList Tryd.prog ops Q ((⟨dst,.store T x y,ty,pos,aft,grd⟩:Oper)::rest) a w :=
 zKu hg T x y rfl hx hy H hi hT hn h
theorem aW (H:HoldG M w0 w l) {T:TypeId} {x y:Operand} {i b:Nat} {d:WordD} {U:TypeId} {s:Nat→Nat} (h:∀ w',HoldG M w0 w' (l.set i (.blk b (zAo {d with set:=s}) U))→wpList Tryd.prog ops Q rest (a.put dst undef) w') (hg:Region.wanted (⟨dst,.store T x y,ty,pos,aft,grd⟩:Oper) (yielded ops a.tmps)=true:=by first|rfl|exact zAr rfl (zAZ rfl (by first|rfl|(simp only[pe];rfl)))) (hx:a.eval x=.pointer (some ⟨b,2,none⟩):=by exact rfl) (hy:a.eval y=setV s:=by (try simp only[pe]);with_reducible rfl) (hi:At l i (.blk b (zAo d) U):=by repeat (first|(with_reducible exact At.zero)|apply At.succ)) (hT:zDJ Tryd.prog T 4=true:=by with_reducible exact zAb zAh):wpList Tryd.prog ops Q ((⟨dst,.store T x y,ty,pos,aft,grd⟩:Oper)::rest) a w :=
 zDc hg T x y rfl hx (vs:=setC s) hy H hi hT rfl rfl (show 2+4≤17 by omega) h
theorem aV (H:HoldG M w0 w l) {T:TypeId} {x:Operand} {i b:Nat} {d:WordD} {U:TypeId} (h:wpList Tryd.prog ops Q rest (a.put dst (setV d.set)) w) (hg:Region.wanted (⟨dst,.load T x,ty,pos,aft,grd⟩:Oper) (yielded ops a.tmps)=true:=by first|rfl|exact zAr rfl (zAZ rfl (by first|rfl|(simp only[pe];rfl)))) (hx:a.eval x=.pointer (some ⟨b,2,none⟩):=by exact rfl) (hi:At l i (.blk b (zAo d) U):=by repeat (first|(with_reducible exact At.zero)|apply At.succ)) (hT:rowB Tryd.prog T 4=true:=by with_reducible exact zAh):wpList Tryd.prog ops Q ((⟨dst,.load T x,ty,pos,aft,grd⟩:Oper)::rest) a w :=
 zD4 hg T x rfl hx H hi (setC d.set) hT rfl h
theorem aZ  (h:wpList Tryd.prog ops Q rest (a.put dst (setV zAM)) w) (hg:Region.wanted (⟨dst,.build 28 #[],ty,pos,aft,grd⟩:Oper) (yielded ops a.tmps)=true:=by first|rfl|exact zAr rfl (zAZ rfl (by first|rfl|(simp only[pe];rfl)))):wpList Tryd.prog ops Q ((⟨dst,.build 28 #[],ty,pos,aft,grd⟩:Oper)::rest) a w :=
 zNc hg rfl h
theorem aL (H:HoldG M w0 w l) {T:TypeId} {x:Operand} {i b:Nat} {s:Nat→Nat} {U:TypeId} (h:wpList Tryd.prog ops Q rest (a.put dst (setV s)) w) (hg:Region.wanted (⟨dst,.load T x,ty,pos,aft,grd⟩:Oper) (yielded ops a.tmps)=true:=by first|rfl|exact zAr rfl (zAZ rfl (by first|rfl|(simp only[pe];rfl)))) (hx:a.eval x=.pointer (some ⟨b,0,none⟩):=by exact rfl) (hi:At l i (.blk b (setC s) U):=by repeat (first|(with_reducible exact At.zero)|apply At.succ)) (hT:rowB Tryd.prog T 4=true:=by with_reducible exact zAh):wpList Tryd.prog ops Q ((⟨dst,.load T x,ty,pos,aft,grd⟩:Oper)::rest) a w :=
 zMM hg T x rfl hx H hi hT h
theorem bA (H:HoldG M w0 w l) {T:TypeId} (h:∀ b w',HoldG M w0 w' (l++[.blk b (zCL Tryd.prog T) T])→wpList Tryd.prog ops Q rest (a.put dst (.pointer (some ⟨b,0,none⟩))) w') (hg:Region.wanted (⟨dst,.alloc T,ty,pos,aft,grd⟩:Oper) (yielded ops a.tmps)=true:=by first|rfl|exact zAr rfl (zAZ rfl (by first|rfl|(simp only[pe];rfl)))) (hi:((Tryd.prog.info? T).bind (·.zero)).isSome=true:=by kernel_rfl):wpList Tryd.prog ops Q ((⟨dst,.alloc T,ty,pos,aft,grd⟩:Oper)::rest) a w :=
 zHB hg T rfl H hi h
theorem bB (H:HoldG M w0 w l) {T:TypeId} {x:Operand} {v:Value} (h:∀ b w',HoldG M w0 w' (l++[.blk b v.cells T])→wpList Tryd.prog ops Q rest (a.put dst (.pointer (some ⟨b,0,none⟩))) w') (hg:Region.wanted (⟨dst,.box T x,ty,pos,aft,grd⟩:Oper) (yielded ops a.tmps)=true:=by first|rfl|exact zAr rfl (zAZ rfl (by first|rfl|(simp only[pe];rfl)))) (hx:a.eval x=v:=by first|(simp only[pe];done)|(simp only[pe];rfl)):wpList Tryd.prog ops Q ((⟨dst,.box T x,ty,pos,aft,grd⟩:Oper)::rest) a w :=
 zJ9 hg T x rfl hx H h
theorem kS (k:Tmp) (H:HoldG M w0 w l) {T:TypeId} {x:Operand} {s:Nat→Nat} (h:∀ b w',HoldG M w0 w' (l++[.blk b (setC s) T])→wpList Tryd.prog ops Q rest (a.put (some k) (.pointer (some ⟨b,0,none⟩))) w') (hg:Region.wanted (⟨some k,.box T x,ty,pos,aft,grd⟩:Oper) (yielded ops a.tmps)=true:=by first|rfl|exact zAr rfl (zAZ rfl (by first|rfl|(simp only[pe];rfl)))) (hx:a.eval x=setV s:=by (try simp only[pe]);with_reducible rfl):wpList Tryd.prog ops Q ((⟨some k,.box T x,ty,pos,aft,grd⟩:Oper)::rest) a w :=
 zOT hg T x rfl hx H h
theorem kA (k:Tmp) (H:HoldG M w0 w l) {T:TypeId} (h:∀ b w',HoldG M w0 w' (l++[.blk b (zCL Tryd.prog T) T])→wpList Tryd.prog ops Q rest (a.put (some k) (.pointer (some ⟨b,0,none⟩))) w') (hg:Region.wanted (⟨some k,.alloc T,ty,pos,aft,grd⟩:Oper) (yielded ops a.tmps)=true:=by first|rfl|exact zAr rfl (zAZ rfl (by first|rfl|(simp only[pe];rfl)))) (hi:((Tryd.prog.info? T).bind (·.zero)).isSome=true:=by kernel_rfl):wpList Tryd.prog ops Q ((⟨some k,.alloc T,ty,pos,aft,grd⟩:Oper)::rest) a w :=
 zHB hg T rfl H hi h
theorem kB (k:Tmp) (H:HoldG M w0 w l) {T:TypeId} {x:Operand} {v:Value} (h:∀ b w',HoldG M w0 w' (l++[.blk b v.cells T])→wpList Tryd.prog ops Q rest (a.put (some k) (.pointer (some ⟨b,0,none⟩))) w') (hg:Region.wanted (⟨some k,.box T x,ty,pos,aft,grd⟩:Oper) (yielded ops a.tmps)=true:=by first|rfl|exact zAr rfl (zAZ rfl (by first|rfl|(simp only[pe];rfl)))) (hx:a.eval x=v:=by first|(simp only[pe];done)|(simp only[pe];rfl)):wpList Tryd.prog ops Q ((⟨some k,.box T x,ty,pos,aft,grd⟩:Oper)::rest) a w :=
 zJ9 hg T x rfl hx H h
theorem aO (H:HoldG M w0 w l) {T:TypeId} {x y:Operand} {i b:Nat} {cs:Array Value} {U:TypeId} {k:Nat} {v:Value} (h:∀ w',HoldG M w0 w' (l.set i (.blk b (cs.setIfInBounds k v) U))→wpList Tryd.prog ops Q rest (a.put dst undef) w') (hg:Region.wanted (⟨dst,.store T x y,ty,pos,aft,grd⟩:Oper) (yielded ops a.tmps)=true:=by first|rfl|exact zAr rfl (zAZ rfl (by first|rfl|(simp only[pe];rfl)))) (hx:a.eval x=.pointer (some ⟨b,k,none⟩):=by exact rfl) (hy:a.eval y=v:=by first|(simp only[pe];done)|(simp only[pe];rfl)) (hi:At l i (.blk b cs U):=by repeat (first|(with_reducible exact At.zero)|apply At.succ)) (h1:v.oneCell'=true:=by rfl) (hk:k<cs.size:=by first|(simp;done)|(simp[zAo];done)|(simp[zAH];done)|(simp[zEU];done)) (hT:zDJ Tryd.prog T 1=true:=by first|(with_reducible exact zAA zAc)|(with_reducible exact zAA zAU)|(with_reducible exact zAA zCg)|(with_reducible exact zAA zAX)|(with_reducible exact zAA zAR)|(with_reducible exact zAA one_u8)|(with_reducible exact zAA zAi)|(with_reducible exact zAA zAp)|(with_reducible exact zAA zAn)|(with_reducible exact zAA one_u64)|(with_reducible exact zAA zAI)|(with_reducible exact zAA one_bytes)):wpList Tryd.prog ops Q ((⟨dst,.store T x y,ty,pos,aft,grd⟩:Oper)::rest) a w :=
 zAD hg T x y rfl hx hy H hi h1 hk hT h
theorem aT (H:HoldG M w0 w l) {T:TypeId} {x y:Operand} {i b:Nat} {cs:Array Value} {U:TypeId} {n:Nat} {vs:Array Value} (h:∀ w',HoldG M w0 w' (l.set i (.blk b vs U))→wpList Tryd.prog ops Q rest (a.put dst undef) w') (hg:Region.wanted (⟨dst,.store T x y,ty,pos,aft,grd⟩:Oper) (yielded ops a.tmps)=true:=by first|rfl|exact zAr rfl (zAZ rfl (by first|rfl|(simp only[pe];rfl)))) (hx:a.eval x=.pointer (some ⟨b,0,none⟩):=by exact rfl) (hy:a.eval y=.agg vs:=by first|(simp only[pe];done)|(simp only[pe];rfl)) (hi:At l i (.blk b cs U):=by repeat (first|(with_reducible exact At.zero)|apply At.succ)) (hT:zDJ Tryd.prog T n=true:=by first|(with_reducible exact zAb zBe)|(with_reducible exact zAb zAh)|(with_reducible exact zAb zAN)|(with_reducible exact zAb zA9)) (hv:vs.size=n:=by rfl) (hn:cs.size=n:=by rfl) (h1:vs.toList.all (·.oneCell')=true:=by rfl):wpList Tryd.prog ops Q ((⟨dst,.store T x y,ty,pos,aft,grd⟩:Oper)::rest) a w :=
 zI4 hg T x y rfl hx hy H hi hT hv hn h1 h
theorem aN (H:HoldG M w0 w l) {T:TypeId} {x y:Operand} {i b:Nat} {cs:Array Value} {U:TypeId} {n k:Nat} {vs:Array Value} (h:∀ w',HoldG M w0 w' (l.set i (.blk b (zAe cs k vs.toList) U))→wpList Tryd.prog ops Q rest (a.put dst undef) w') (hg:Region.wanted (⟨dst,.store T x y,ty,pos,aft,grd⟩:Oper) (yielded ops a.tmps)=true:=by first|rfl|exact zAr rfl (zAZ rfl (by first|rfl|(simp only[pe];rfl)))) (hx:a.eval x=.pointer (some ⟨b,k,none⟩):=by exact rfl) (hy:a.eval y=.agg vs:=by first|(simp only[pe];done)|(simp only[pe];rfl)) (hi:At l i (.blk b cs U):=by repeat (first|(with_reducible exact At.zero)|apply At.succ)) (hT:zDJ Tryd.prog T n=true:=by first|(with_reducible exact zAb zBe)|(with_reducible exact zAb zAh)|(with_reducible exact zAb zAN)|(with_reducible exact zAb zA9)) (hv:vs.size=n:=by rfl) (h1:vs.toList.all (·.oneCell')=true:=by rfl) (hk:k+n≤cs.size:=by first|(simp;done)|(simp[zAo];done)|(simp[zAH];done)|(simp[zEU];done)):wpList Tryd.prog ops Q ((⟨dst,.store T x y,ty,pos,aft,grd⟩:Oper)::rest) a w :=
 zDc hg T x y rfl hx hy H hi hT hv h1 hk h
theorem aG (H:HoldG M w0 w l) {T:TypeId} {x:Operand} {i b:Nat} {cs:Array Value} {U:TypeId} {k:Nat} {v:Value} (h:wpList Tryd.prog ops Q rest (a.put dst v) w) (hg:Region.wanted (⟨dst,.load T x,ty,pos,aft,grd⟩:Oper) (yielded ops a.tmps)=true:=by first|rfl|exact zAr rfl (zAZ rfl (by first|rfl|(simp only[pe];rfl)))) (hx:a.eval x=.pointer (some ⟨b,k,none⟩):=by exact rfl) (hi:At l i (.blk b cs U):=by repeat (first|(with_reducible exact At.zero)|apply At.succ)) (hT:oneB Tryd.prog T=true:=by first|(with_reducible exact zAc)|(with_reducible exact zAU)|(with_reducible exact zCg)|(with_reducible exact zAX)|(with_reducible exact zAR)|(with_reducible exact one_u8)|(with_reducible exact zAi)|(with_reducible exact zAp)|(with_reducible exact zAn)|(with_reducible exact one_u64)|(with_reducible exact zAI)|(with_reducible exact one_bytes)) (hv:cs[k]?=some v:=by first|(with_reducible exact wg0 _)|(with_reducible exact wg1 _)|(with_reducible exact wg2 _)|(with_reducible exact wg3 _)|(with_reducible exact wg4 _)|(with_reducible exact wg5 _)|(with_reducible exact wg6 _)|(with_reducible exact wg7 _)|(with_reducible exact wg8 _)|(with_reducible exact wg9 _)|(with_reducible exact wg10 _)|(with_reducible exact wg11 _)|(with_reducible exact wg12 _)|(with_reducible exact wg13 _)|(with_reducible exact wg14 _)|(with_reducible exact wg15 _)|(with_reducible exact wg16 _)|(with_reducible exact fg0 _)|(with_reducible exact fg1 _)|(with_reducible exact fg2 _)|(with_reducible exact ng0 _ _)|(with_reducible exact ng1 _ _)|(with_reducible exact ng2 _ _)|(with_reducible exact ng3 _ _)|(with_reducible exact ng4 _ _)|(with_reducible exact ng5 _ _)|(with_reducible exact ng6 _ _)|(with_reducible exact ng7 _ _)|(with_reducible exact ng8 _ _)|(with_reducible exact ng9 _ _)|rfl):wpList Tryd.prog ops Q ((⟨dst,.load T x,ty,pos,aft,grd⟩:Oper)::rest) a w :=
 zAG hg T x rfl hx H hi hT hv h
theorem aD (H:HoldG M w0 w l) {T:TypeId} {x:Operand} {i b:Nat} {cs:Array Value} {U:TypeId} {n:Nat} (h:wpList Tryd.prog ops Q rest (a.put dst (.agg cs)) w) (hg:Region.wanted (⟨dst,.load T x,ty,pos,aft,grd⟩:Oper) (yielded ops a.tmps)=true:=by first|rfl|exact zAr rfl (zAZ rfl (by first|rfl|(simp only[pe];rfl)))) (hx:a.eval x=.pointer (some ⟨b,0,none⟩):=by exact rfl) (hi:At l i (.blk b cs U):=by repeat (first|(with_reducible exact At.zero)|apply At.succ)) (hT:rowB Tryd.prog T n=true:=by first|(with_reducible exact zBe)|(with_reducible exact zAh)|(with_reducible exact zAN)|(with_reducible exact zA9)) (hn:cs.size=n:=by rfl):wpList Tryd.prog ops Q ((⟨dst,.load T x,ty,pos,aft,grd⟩:Oper)::rest) a w :=
 zKe hg T x rfl hx H hi hT hn h
theorem aI {T:TypeId} {x lo:Operand} {L:Str} {y:Int} {i:Nat} (h:wpList Tryd.prog ops Q rest (a.put dst (.int .u8 (byt L i))) w) (hg:Region.wanted (⟨dst,.index T x lo,ty,pos,aft,grd⟩:Oper) (yielded ops a.tmps)=true:=by first|rfl|exact zAr rfl (zAZ rfl (by first|rfl|(simp only[pe];rfl)))) (hT:Tryd.prog.underlying T=some .string:=by exact Tryd.underlying9) (hx:a.eval x=.string ⟨L.toArray⟩:=by exact rfl) (hl:a.eval lo=.int .i64 y:=by first|(simp only[pe];done)|(simp only[pe];rfl)) (hy:y=(i:Int):=by first|with_reducible exact hNC|with_reducible exact nc1 _|with_reducible exact nc2 _|with_reducible exact nc3 _|with_reducible exact nca _ _|with_reducible exact nc0 _|with_reducible exact ncl0|with_reducible exact ncl1|rfl) (h1:i<L.length:=by first|omega|(simp only[List.length_cons,List.length_nil];omega)):wpList Tryd.prog ops Q ((⟨dst,.index T x lo,ty,pos,aft,grd⟩:Oper)::rest) a w :=
 zNF hg T x lo rfl hT hx hl hy h1 h
theorem aU {T:TypeId} {x hi:Operand} {L:Str} {y:Int} {i:Nat} (h:wpList Tryd.prog ops Q rest (a.put dst (.string ⟨(L.take i).toArray⟩)) w) (hg:Region.wanted (⟨dst,.slice T x none (some hi) none,ty,pos,aft,grd⟩:Oper) (yielded ops a.tmps)=true:=by first|rfl|exact zAr rfl (zAZ rfl (by first|rfl|(simp only[pe];rfl)))) (hT:Tryd.prog.underlying T=some .string:=by exact Tryd.underlying9) (hx:a.eval x=.string ⟨L.toArray⟩:=by exact rfl) (hl:a.eval hi=.int .i64 y:=by first|(simp only[pe];done)|(simp only[pe];rfl)) (hy:y=(i:Int):=by first|with_reducible exact hNC|with_reducible exact nc1 _|with_reducible exact nc2 _|with_reducible exact nc3 _|with_reducible exact nca _ _|with_reducible exact nc0 _|with_reducible exact ncl0|with_reducible exact ncl1|rfl) (h1:i≤L.length:=by first|omega|(simp only[List.length_cons,List.length_nil];omega)):wpList Tryd.prog ops Q ((⟨dst,.slice T x none (some hi) none,ty,pos,aft,grd⟩:Oper)::rest) a w :=
 zP9 hg T x hi rfl hT hx hl hy h1 h
theorem aE {T:TypeId} {x y:Operand} {U:TypeId} {L L':Str} (h:wpList Tryd.prog ops Q rest (a.put dst (.bool (L == L'))) w) (hg:Region.wanted (⟨dst,.binOp .eql T x y U,ty,pos,aft,grd⟩:Oper) (yielded ops a.tmps)=true:=by first|rfl|exact zAr rfl (zAZ rfl (by first|rfl|(simp only[pe];rfl)))) (hx:a.eval x=.string ⟨L.toArray⟩:=by exact rfl) (hy:a.eval y=.string ⟨L'.toArray⟩:=by exact rfl) (hq:∀ w:World,(eqGuard .eql T x y (.string ⟨L.toArray⟩) (.string ⟨L'.toArray⟩)).run Tryd.prog w=.ok () w:=by exact fun _=>rfl):wpList Tryd.prog ops Q ((⟨dst,.binOp .eql T x y U,ty,pos,aft,grd⟩:Oper)::rest) a w :=
 zPR hg T x y U rfl hx hy hq h
end
section
variable {M:Nat→Prop} {a:Act} {w w0:World} {l:List Res} {fn:Func} {R:Ending→World→Prop} {p q r:Tmp} {T:TypeId} {b i n:Nat} {cs:Array Value} {U:TypeId} {s:Nat→Nat} {v u:Value}
theorem xc (hres:fn.results=#[.cell p T]) (H:HoldG M w0 w l) (h:R (.returned (.agg cs)) w) (hp:a.tmps.getD p undef=.pointer (some ⟨b,0,none⟩):=by exact rfl) (hi:At l i (.blk b cs U):=by repeat (first|(with_reducible exact At.zero)|apply At.succ)) (hT:rowB Tryd.prog T n=true:=by first|(with_reducible exact zBe)|(with_reducible exact zAh)|(with_reducible exact zAN)|(with_reducible exact zA9)) (hn:cs.size=n:=by rfl) (hd:a.defers=[]:=by exact rfl):bodyPost Tryd.prog fn R .ret a w:=zQL hres hp H hi hT hn hd h
theorem xct (hres:fn.results=#[.cell p T,.tmp q]) (H:HoldG M w0 w l) (h:R (.returned (.tuple #[.agg cs,v])) w) (hp:a.tmps.getD p undef=.pointer (some ⟨b,0,none⟩):=by exact rfl) (hq:a.tmps.getD q undef=v:=by first|rfl|(simp only[pl];rfl)) (hi:At l i (.blk b cs U):=by repeat (first|(with_reducible exact At.zero)|apply At.succ)) (hT:rowB Tryd.prog T n=true:=by first|(with_reducible exact zBe)|(with_reducible exact zAh)|(with_reducible exact zAN)|(with_reducible exact zA9)) (hn:cs.size=n:=by rfl) (hd:a.defers=[]:=by exact rfl):bodyPost Tryd.prog fn R .ret a w:=zOf hres hp hq H hi hT hn hd h
theorem xctt (hres:fn.results=#[.cell p T,.tmp q,.tmp r]) (H:HoldG M w0 w l) (h:R (.returned (.tuple #[.agg cs,v,u])) w) (hp:a.tmps.getD p undef=.pointer (some ⟨b,0,none⟩):=by exact rfl) (hq:a.tmps.getD q undef=v:=by first|rfl|(simp only[pl];rfl)) (hr:a.tmps.getD r undef=u:=by first|rfl|(simp only[pl];rfl)) (hi:At l i (.blk b cs U):=by repeat (first|(with_reducible exact At.zero)|apply At.succ)) (hT:rowB Tryd.prog T n=true:=by first|(with_reducible exact zBe)|(with_reducible exact zAh)|(with_reducible exact zAN)|(with_reducible exact zA9)) (hn:cs.size=n:=by rfl) (hd:a.defers=[]:=by exact rfl):bodyPost Tryd.prog fn R .ret a w:=zPa hres hp hq hr H hi hT hn hd h
theorem xcS (hres:fn.results=#[.cell p T]) (H:HoldG M w0 w l) (h:R (.returned (setV s)) w) (hp:a.tmps.getD p undef=.pointer (some ⟨b,0,none⟩):=by exact rfl) (hi:At l i (.blk b (setC s) U):=by repeat (first|(with_reducible exact At.zero)|apply At.succ)) (hT:rowB Tryd.prog T 4=true:=by with_reducible exact zAh) (hd:a.defers=[]:=by exact rfl):bodyPost Tryd.prog fn R .ret a w:=zQG hres hp H hi hT hd h
theorem xctS (hres:fn.results=#[.cell p T,.tmp q]) (H:HoldG M w0 w l) (h:R (.returned (.tuple #[setV s,v])) w) (hp:a.tmps.getD p undef=.pointer (some ⟨b,0,none⟩):=by exact rfl) (hq:a.tmps.getD q undef=v:=by first|rfl|(simp only[pl];rfl)) (hi:At l i (.blk b (setC s) U):=by repeat (first|(with_reducible exact At.zero)|apply At.succ)) (hT:rowB Tryd.prog T 4=true:=by with_reducible exact zAh) (hd:a.defers=[]:=by exact rfl):bodyPost Tryd.prog fn R .ret a w:=zO3 hres hp hq H hi hT hd h
end
theorem ca {α:Type}:(∀ (a:α) (l r:List α),a::l++r=a::(l++r))∧∀ l:List α,[]++l=l:=⟨fun _ _ _=>rfl,fun _=>rfl⟩
theorem sc {α:Type}:(∀ (a b:α) (l:List α) (n:Nat),(a::l).set (n+1) b=a::l.set n b)∧∀ (a b:α) (l:List α),(a::l).set 0 b=b::l:=⟨fun _ _ _ _=>rfl,fun _ _ _=>rfl⟩
theorem ml {α β:Type} {f:α→β}:(∀ l:List α,l.toArray.map f=(l.map f).toArray)∧(∀ (a:α) (l:List α),(a::l).map f=f a::l.map f)∧([]:List α).map f=[]:=⟨fun _=>List.map_toArray ..,fun _ _=>rfl,rfl⟩
section
variable {ops:Array Oper} {dst:Option Tmp} {ty:TypeId} {pos:String} {aft:Array Edge} {grd:Option (Nat × Bool)} {rest:List Oper} {a:Act} {w:World} {Q:Exit→Act→World→Prop}
theorem gBS {x0:TypeId} {x1:Nat} {x2:Array (Nat × Operand)} (h:wpList Tryd.prog ops Q ((⟨dst,.buildSlice x0 x1 x2,ty,pos,aft,grd⟩:Oper)::rest) a w):wpList Tryd.prog ops Q ((⟨dst,.buildSlice x0 x1 x2,ty,pos,aft,grd⟩:Oper)::rest) a w:=h
theorem gIA {x0:TypeId} {x1 x2:Operand} (h:wpList Tryd.prog ops Q ((⟨dst,.indexAddr x0 x1 x2,ty,pos,aft,grd⟩:Oper)::rest) a w):wpList Tryd.prog ops Q ((⟨dst,.indexAddr x0 x1 x2,ty,pos,aft,grd⟩:Oper)::rest) a w:=h
theorem gCV {x0 x1:TypeId} {x2:Operand} (h:wpList Tryd.prog ops Q ((⟨dst,.convert x0 x1 x2,ty,pos,aft,grd⟩:Oper)::rest) a w):wpList Tryd.prog ops Q ((⟨dst,.convert x0 x1 x2,ty,pos,aft,grd⟩:Oper)::rest) a w:=h
theorem gSl {x0:TypeId} {x1:Operand} {x2 x3 x4:Option Operand} (h:wpList Tryd.prog ops Q ((⟨dst,.slice x0 x1 x2 x3 x4,ty,pos,aft,grd⟩:Oper)::rest) a w):wpList Tryd.prog ops Q ((⟨dst,.slice x0 x1 x2 x3 x4,ty,pos,aft,grd⟩:Oper)::rest) a w:=h
theorem gMS {x0:TypeId} {x1 x2:Operand} (h:wpList Tryd.prog ops Q ((⟨dst,.makeSlice x0 x1 x2,ty,pos,aft,grd⟩:Oper)::rest) a w):wpList Tryd.prog ops Q ((⟨dst,.makeSlice x0 x1 x2,ty,pos,aft,grd⟩:Oper)::rest) a w:=h
theorem gBd {x0:TypeId} {x1:Array (Nat × Operand)} (h:wpList Tryd.prog ops Q ((⟨dst,.build x0 x1,ty,pos,aft,grd⟩:Oper)::rest) a w):wpList Tryd.prog ops Q ((⟨dst,.build x0 x1,ty,pos,aft,grd⟩:Oper)::rest) a w:=h
end
theorem zPI (W:World):(Instr.build 31 #[]).run Tryd.prog W=.ok (zAf {kind:=0} nilS) W:=by kernel_rfl
theorem zPH (k:Int) (W:World):(Instr.build 31 #[(0,.int .i64 k)]).run Tryd.prog W=.ok (zAf {kind:=k} nilS) W:=by simp[go_sem];rfl
theorem zPB (k:Int) (s:Nat→Nat) (W:World):(Instr.build 31 #[(0,.int .i64 k),(1,setV s)]).run Tryd.prog W=.ok (zAf {kind:=k,set:=s} nilS) W:=by unfold setV;simp[go_sem];rfl
theorem zOy (k:Int) (p:Option Addr) (n c:Nat) (W:World):(Instr.build 31 #[(0,.int .i64 k),(2,.slice p n c)]).run Tryd.prog W=.ok (zAf {kind:=k} (.slice p n c)) W:=by simp[go_sem];rfl
theorem zDT (d:NodeD) (s:Value) (W:World):(Instr.buildSlice 29 1 #[(0,zAf d s)]).run Tryd.prog W=.ok (.slice (some ⟨W.heap.size,0,none⟩) 1 1) (W.alloc (.cells (zAH d s) 31)):=by kernel_rfl
section
variable {M:Nat→Prop} {ops:Array Oper} {dst:Option Tmp} {ty:TypeId} {pos:String} {aft:Array Edge} {grd:Option (Nat × Bool)} {rest:List Oper} {a:Act} {w w0:World} {l:List Res} {Q:Exit→Act→World→Prop}
theorem gES {U:TypeId} {x y:Operand} (h:wpList Tryd.prog ops Q ((⟨dst,.binOp .eql 28 x y U,ty,pos,aft,grd⟩:Oper)::rest) a w):wpList Tryd.prog ops Q ((⟨dst,.binOp .eql 28 x y U,ty,pos,aft,grd⟩:Oper)::rest) a w:=h
theorem nb1 {x:Operand} {k:Int} (h:wpList Tryd.prog ops Q rest (a.put dst (zAf {kind:=k} nilS)) w) (hg:Region.wanted (⟨dst,.build 31 #[(0,x)],ty,pos,aft,grd⟩:Oper) (yielded ops a.tmps)=true:=by first|rfl|exact zAr rfl (zAZ rfl (by first|rfl|(simp only[pe];rfl)))) (h0:a.eval x=.int .i64 k:=by first|(simp only[pe];done)|(simp only[pe];rfl)):wpList Tryd.prog ops Q ((⟨dst,.build 31 #[(0,x)],ty,pos,aft,grd⟩:Oper)::rest) a w :=
 zAu hg (by
  simp only[execOp,List.map_toArray,List.map_cons,List.map_nil,h0,Sem.run_bind,zPH];rfl) h
theorem nbS {x y:Operand} {k:Int} {s:Nat→Nat} (h:wpList Tryd.prog ops Q rest (a.put dst (zAf {kind:=k,set:=s} nilS)) w) (hg:Region.wanted (⟨dst,.build 31 #[(0,x),(1,y)],ty,pos,aft,grd⟩:Oper) (yielded ops a.tmps)=true:=by first|rfl|exact zAr rfl (zAZ rfl (by first|rfl|(simp only[pe];rfl)))) (h0:a.eval x=.int .i64 k:=by first|(simp only[pe];done)|(simp only[pe];rfl)) (h1:a.eval y=setV s:=by (try simp only[pe]);with_reducible rfl):wpList Tryd.prog ops Q ((⟨dst,.build 31 #[(0,x),(1,y)],ty,pos,aft,grd⟩:Oper)::rest) a w :=
 zAu hg (by
  simp only[execOp,List.map_toArray,List.map_cons,List.map_nil,h0,h1,Sem.run_bind,zPB];rfl) h
theorem nbK {x y:Operand} {k:Int} {p:Option Addr} {n c:Nat} (h:wpList Tryd.prog ops Q rest (a.put dst (zAf {kind:=k} (.slice p n c))) w) (hg:Region.wanted (⟨dst,.build 31 #[(0,x),(2,y)],ty,pos,aft,grd⟩:Oper) (yielded ops a.tmps)=true:=by first|rfl|exact zAr rfl (zAZ rfl (by first|rfl|(simp only[pe];rfl)))) (h0:a.eval x=.int .i64 k:=by first|(simp only[pe];done)|(simp only[pe];rfl)) (h1:a.eval y=.slice p n c:=by first|(simp only[pe];done)|(simp only[pe];rfl)):wpList Tryd.prog ops Q ((⟨dst,.build 31 #[(0,x),(2,y)],ty,pos,aft,grd⟩:Oper)::rest) a w :=
 zAu hg (by
  simp only[execOp,List.map_toArray,List.map_cons,List.map_nil,h0,h1,Sem.run_bind,zOy];rfl) h
theorem qS {x y:Operand} {t:TypeId} {s u:Nat→Nat} {q:Bool} (h:wpList Tryd.prog ops Q rest (a.put dst (.bool q)) w) (hg:Region.wanted (⟨dst,.binOp .eql 28 x y t,ty,pos,aft,grd⟩:Oper) (yielded ops a.tmps)=true:=by first|rfl|exact zAr rfl (zAZ rfl (by first|rfl|(simp only[pe];rfl)))) (hx:a.eval x=setV s:=by (try simp only[pe]);with_reducible rfl) (hy:a.eval y=setV u:=by (try simp only[pe]);with_reducible rfl) (hq:eqS s u=q:=by first|assumption|rfl):wpList Tryd.prog ops Q ((⟨dst,.binOp .eql 28 x y t,ty,pos,aft,grd⟩:Oper)::rest) a w :=
 zAu hg (by
  have he:=zIj s u w;rw[hq]at he;simp only[execOp,hx,hy];unfold setV
  simp[go_sem,he]) h
theorem aGb (H:HoldG M w0 w l) {T:TypeId} {x:Operand} {i b:Nat} {cs:Array Value} {U:TypeId} {k:Nat} {z q:Bool} (h:wpList Tryd.prog ops Q rest (a.put dst (.bool q)) w) (hg:Region.wanted (⟨dst,.load T x,ty,pos,aft,grd⟩:Oper) (yielded ops a.tmps)=true:=by first|rfl|exact zAr rfl (zAZ rfl (by first|rfl|(simp only[pe];rfl)))) (hx:a.eval x=.pointer (some ⟨b,k,none⟩):=by exact rfl) (hi:At l i (.blk b cs U):=by repeat (first|(with_reducible exact At.zero)|apply At.succ)) (hT:oneB Tryd.prog T=true:=by first|(with_reducible exact zAc)|(with_reducible exact zAU)|(with_reducible exact zCg)|(with_reducible exact zAX)|(with_reducible exact zAR)|(with_reducible exact one_u8)|(with_reducible exact zAi)|(with_reducible exact zAp)|(with_reducible exact zAn)|(with_reducible exact one_u64)|(with_reducible exact zAI)|(with_reducible exact one_rwords)|(with_reducible exact one_p10)|(with_reducible exact one_ikind)|(with_reducible exact one_ints)|(with_reducible exact one_insts)|(with_reducible exact one_bools)|(with_reducible exact one_bytes)) (hv:cs[k]?=some (.bool z):=by first|(with_reducible exact wg0 _)|(with_reducible exact wg1 _)|(with_reducible exact wg2 _)|(with_reducible exact wg3 _)|(with_reducible exact wg4 _)|(with_reducible exact wg5 _)|(with_reducible exact wg6 _)|(with_reducible exact wg7 _)|(with_reducible exact wg8 _)|(with_reducible exact wg9 _)|(with_reducible exact wg10 _)|(with_reducible exact wg11 _)|(with_reducible exact wg12 _)|(with_reducible exact wg13 _)|(with_reducible exact wg14 _)|(with_reducible exact wg15 _)|(with_reducible exact wg16 _)|(with_reducible exact fg0 _)|(with_reducible exact fg1 _)|(with_reducible exact fg2 _)|(with_reducible exact ng0 _ _)|(with_reducible exact ng1 _ _)|(with_reducible exact ng2 _ _)|(with_reducible exact ng3 _ _)|(with_reducible exact ng4 _ _)|(with_reducible exact ng5 _ _)|(with_reducible exact ng6 _ _)|(with_reducible exact ng7 _ _)|(with_reducible exact ng8 _ _)|(with_reducible exact ng9 _ _)|rfl) (hq:z=q:=by assumption):wpList Tryd.prog ops Q ((⟨dst,.load T x,ty,pos,aft,grd⟩:Oper)::rest) a w :=
 by subst hq;exact zAG hg T x rfl hx H hi hT hv h
theorem aVn (H:HoldG M w0 w l) {T:TypeId} {x:Operand} {i b:Nat} {d:NodeD} {s:Value} {U:TypeId} (h:wpList Tryd.prog ops Q rest (a.put dst (setV d.set)) w) (hg:Region.wanted (⟨dst,.load T x,ty,pos,aft,grd⟩:Oper) (yielded ops a.tmps)=true:=by first|rfl|exact zAr rfl (zAZ rfl (by first|rfl|(simp only[pe];rfl)))) (hx:a.eval x=.pointer (some ⟨b,1,none⟩):=by exact rfl) (hi:At l i (.blk b (zAH d s) U):=by repeat (first|(with_reducible exact At.zero)|apply At.succ)) (hT:rowB Tryd.prog T 4=true:=by with_reducible exact zAh):wpList Tryd.prog ops Q ((⟨dst,.load T x,ty,pos,aft,grd⟩:Oper)::rest) a w :=
 zD4 hg T x rfl hx H hi (setC d.set) hT rfl h
end
theorem cht {M:Nat→Prop} {P:Program} {f:FuncId} {args:Array Value} {w w0:World} {l:List Res} {t:Tree} {G:Nat→Prop} {R:Ending→World→Prop} (c:Calls P f args w fun e w'=>zFw w G t e w'∧Below w.heap.size w w') (H:HoldG M w0 w l) (hG:Still l G)
  (k:∀ p n F w',(∀ b,F b→w0.heap.size≤b∨G b)→HoldG M w0 w' (l++[.kn F (fun V=>ForestR V F p n t.kids)])→R (.returned (zAf t.d (.slice p t.kids.length n))) w'):Calls P f args w R:=c.mono fun _ w' h=>by
 obtain⟨⟨p,n,F,rfl,hs,hF⟩,hb⟩:=h;exact k p n F w' (fun b h=>(hF b h).2.imp (fun h=>Nat.le_trans H.keep.size h) id) (H.learn hb hG hF (fun V hV=>hs.kept hV))
end
section
open Go.RowKit Go.Shelf
attribute [local go_sem] Oper.semAt_some


def UTo (L:List (Nat→Nat)) (b i:Nat) (S:Nat→Nat):Prop:=zA1 S∧∀ c,c<256→hasB S c=((decide (c<b)&&L.any (fun t=>hasB t c)) || (decide (c=b)&&(L.take i).any (fun t=>hasB t c)))
theorem UTo.hit {L:List (Nat→Nat)} {b i:Nat} {S:Nat→Nat} (h:UTo L b i S) (hi:i<L.length) (hb:hasB L[i] b=true):UTo L b (i+1) (addS S b) :=
 ⟨zG2 h.1 b,fun c hc=>by
  rw[zGm,h.2 c hc,List.take_succ_eq_append_getElem hi,List.any_append]
  by_cases e:c=b
  ·subst e;simp[hb]
  ·simp[e]⟩
def MTo (L:List (Nat→Nat)) (b:Nat) (S:Nat→Nat):Prop:=zA1 S∧∀ c,c<256→hasB S c=(decide (c<b)&&L.all (fun t=>hasB t c))
theorem MTo.hit {L:List (Nat→Nat)} {b:Nat} {S:Nat→Nat} (h:MTo L b S) (hb:L.all (fun t=>hasB t b)=true):MTo L (b+1) (addS S b) :=
 ⟨zG2 h.1 b,fun c hc=>by
  rw[zGm,h.2 c hc]
  by_cases e:c=b
  ·subst e;rw[hb];simp
  ·by_cases e2:c<b
   ·simp[e,e2,Nat.lt_succ_of_lt e2]
   ·simp[e,e2,show ¬ c<b+1 from by omega]⟩




end
end Go.Proofs.YtklcgfkdemifcaaDoor
