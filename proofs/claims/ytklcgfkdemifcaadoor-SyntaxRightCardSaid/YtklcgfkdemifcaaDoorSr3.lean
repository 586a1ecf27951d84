/-
  Laws of walks, and walks.
-/
import Derived.Test.YtklcgfkdemifcaaDoorSr2
import Derived.Test.YtklcgfkdemifcaaDoorSr1
import Derived.Deep.CutRange
set_option linter.unusedVariables false
set_option linter.unusedSimpArgs false
set_option maxRecDepth 100000
set_option maxHeartbeats 16000000
namespace Go.Proofs.YtklcgfkdemifcaaDoor
section
open Go.RowKit
def zBG:Nat→Nat:=zAm 48 10
def zC3:Nat→Nat:=zAm 97 26
def zC2:Nat→Nat:=zAm 65 26
def zBt:Nat→Nat:=zA1 [zBG,zC3,zC2]
def zD3:Nat→Nat:=zAm 33 94
def zDo:Nat→Nat:=zA1 [zBt,ofS [95]]
def zCf:Nat→Nat:=ofS [9,10,12,13,32]
def namesL:List (Str × (Nat→Nat)) :=
 [([97,108,110,117,109],zBt),([97,108,112,104,97],zA1 [zC3,zC2]),([97,115,99,105,105],zAm 0 128),([98,108,97,110,107],ofS [9,32]),
  ([99,110,116,114,108],zA1 [zAm 0 32,ofS [127]]),([100,105,103,105,116],zBG),([103,114,97,112,104],zD3),([108,111,119,101,114],zC3),
  ([112,114,105,110,116],zAm 32 95),([112,117,110,99,116],zIV [zD3,notS zBt]),([115,112,97,99,101],zA1 [zAm 9 5,ofS [32]]),([117,112,112,101,114],zC2),
  ([119,111,114,100],zDo),([120,100,105,103,105,116],zA1 [zBG,zAm 97 6,zAm 65 6])]
def zEu (n:Str):Option (Nat→Nat):=(namesL.find? (fun p=>n == p.1)).map (·.2)
def sortsL:List (Nat × (Nat→Nat)):=[(100,zBG),(119,zDo),(115,zCf),(68,notS zBG),(87,notS zDo),(83,notS zCf)]
def zEt (c:Nat):Option (Nat→Nat):=(sortsL.find? (fun p=>c == p.1)).map (·.2)
def hexP (c:Nat):Option Nat:=if 48≤c∧c≤57 then some (c - 48) else if 97≤c∧c≤102 then some (c - 87) else if 65≤c∧c≤70 then some (c - 55) else none
def zGz (c:Nat):Option Nat:=if c=110 then some 10 else if c=116 then some 9 else if c=114 then some 13 else if c=102 then some 12 else if c=118 then some 11 else if c=97 then some 7 else none
def escP (L:Str) (i:Nat):Option (Nat × Nat) :=
 if i+1<L.length then
  match zGz (byt L (i+1)) with
  | some b=>some (b,i+2)
  | none =>
   if byt L (i+1)=120 then
    if i+2<L.length then
     match hexP (byt L (i+2)) with
     | none=>none
     | some h =>
      if i+3<L.length then
       match hexP (byt L (i+3)) with
       | none=>none
       | some g=>some (16 * h+g,i+4)
      else none
    else none
   else if 128≤byt L (i+1) then none
   else if hasB zBt (byt L (i+1)) then none
   else some (byt L (i+1),i+2)
 else none
def zEV (L:Str) (i:Nat):Option (Nat × Nat) :=
 if i<L.length then (if byt L i=92 then escP L i else some (byt L i,i+1)) else none
def atP (L:Str) (i:Nat) (t:Str):Bool:=t.isPrefixOf (L.drop i)
def zFZ (t:Str):Str→Option Nat
 | []=>if t.isPrefixOf [] then some 0 else none
 | c::l=>if t.isPrefixOf (c::l) then some 0 else (zFZ t l).map (·+1)
def zKG (L:Str) (i:Nat):Option (Option ((Nat→Nat) × Nat)) :=
 if atP L i [91,58] then
  match zFZ [58,93] (L.drop (i+2)) with
  | none=>none
  | some k =>
   let name:=(L.drop (i+2)).take k
   let neg:=atP name 0 [94]
   match zEu (if neg then name.drop 1 else name) with
   | none=>some none
   | some s=>some (some (if neg then notS s else s,i+2+k+2))
 else none
def zFe (L:Str) (i:Nat):Option ((Nat→Nat) × Nat) :=
 match zEV L i with
 | none=>none
 | some (lo,k) =>
  if k+1<L.length∧byt L k=45∧byt L (k+1)≠93 then
   match zEV L (k+1) with
   | none=>none
   | some (hi,e)=>if lo≤hi then some (zAm lo (hi+1 - lo),e) else none
  else some (ofS [(lo:Int)],k)
def zIb (L:Str) (i:Nat):Option ((Nat→Nat) × Nat) :=
 match zKG L i with
 | some r=>r
 | none =>
  match (if byt L i=92∧i+1<L.length then zEt (byt L (i+1)) else none) with
  | some s=>some (s,i+2)
  | none=>zFe L i
def zB6 (L:Str):Nat→Nat→Bool→(Nat→Nat)→Option ((Nat→Nat) × Nat)
 | 0,_,_,_=>none
 | f+1,k,first,S =>
  if first=false∧atP L k [93]=true then some (S,k+1)
  else match zIb L k with
   | none=>none
   | some (t,e)=>zB6 L f e false (zA1 [S,t])
structure WordD where
 kind:Nat
 place:Nat
 set:Nat→Nat:=zAF
 neg:Bool:=false
 spot:Nat:=0
 lo:Int:=0
 hi:Int:=0
 lazy:Bool:=false
 on:Bool × Bool × Bool:=(false,false,false)
 off:Bool × Bool × Bool:=(false,false,false)
def zAg (w:WordD):Array Value:=#[.int .i64 w.kind,.int .i64 w.place,.int .u64 (w.set 0),.int .u64 (w.set 1),.int .u64 (w.set 2),.int .u64 (w.set 3),.bool w.neg,.int .i64 w.spot,.int .i64 w.lo,.int .i64 w.hi,.bool w.lazy,
 .bool w.on.1,.bool w.on.2.1,.bool w.on.2.2,.bool w.off.1,.bool w.off.2.1,.bool w.off.2.2]
abbrev zAk (w:WordD):Value:=.agg (zAg w)
theorem wg0 (w:WordD):(zAg w)[0]?=some (.int .i64 w.kind):=rfl
theorem wg1 (w:WordD):(zAg w)[1]?=some (.int .i64 w.place):=rfl
theorem wg6 (w:WordD):(zAg w)[6]?=some (.bool w.neg):=rfl
def zCZ (L:Str) (i:Nat):Option (WordD × Nat) :=
 let neg:=atP L (i+1) [94]
 (zB6 L (L.length+1) (if neg then i+2 else i+1) true zAF).map (fun (S,e)=>({kind:=1,place:=i,set:=S,neg:=neg},e))
def zAT (L:Str):Nat→Nat→Bool→Bool→WordD→Option (WordD × Nat)
 | 0,_,_,_,_=>none
 | f+1,k,off,opn,w =>
  if k<L.length then
   let c:=byt L k
   if c=105 then zAT L f (k+1) off true (if off then {w with off:=(true,w.off.2.1,w.off.2.2)} else {w with on:=(true,w.on.2.1,w.on.2.2)})
   else if c=109 then zAT L f (k+1) off true (if off then {w with off:=(w.off.1,true,w.off.2.2)} else {w with on:=(w.on.1,true,w.on.2.2)})
   else if c=115 then zAT L f (k+1) off true (if off then {w with off:=(w.off.1,w.off.2.1,true)} else {w with on:=(w.on.1,w.on.2.1,true)})
   else if c=45 then (if off then none else zAT L f (k+1) true false w)
   else if c=58 then (if opn then some ({w with kind:=7},k+1) else none)
   else if c=41 then (if opn then some ({w with kind:=8},k+1) else none)
   else none
  else none
def zBU (L:Str) (i:Nat):Option (WordD × Nat):=zAT L (L.length+1) (i+2) false true {kind:=0,place:=i}
def zA6 (c:UInt8):Bool:=decide (48≤c.toNat)&&decide (c.toNat≤57)
def numF (l:Str):Nat:=l.foldl (fun n c=>min (10 * n+(c.toNat - 48)) 101) 0
def zDS (L:Str) (i:Nat):Option (Nat × Nat) :=
 let ds:=(L.drop i).takeWhile zA6
 if ds=[]∨1<ds.length∧byt L i=48 then none else some (numF ds,i+ds.length)
def zC0 (L:Str) (i:Nat):Option (Nat × Int × Nat) :=
 match zDS L (i+1) with
 | none=>none
 | some (n,k) =>
  if atP L k [44,125] then some (n,-1,k+2)
  else if atP L k [44] then
   match zDS L (k+1) with
   | none=>none
   | some (m,e)=>if atP L e [125] then some (n,m,e+1) else none
  else if atP L k [125] then some (n,n,k+1) else none
def zAj (L:Str) (i:Nat) (lo hi:Int) (e:Nat):Except Nat (WordD × Nat) :=
 if 100<lo∨100<hi∨(0≤hi∧hi<lo) then .error 6
 else if atP L e [63] then .ok ({kind:=11,place:=i,lo:=lo,hi:=hi,lazy:=true},e+1)
 else .ok ({kind:=11,place:=i,lo:=lo,hi:=hi},e)
def zGZ (c:Nat):Option Nat:=if c=98 then some 12 else if c=66 then some 13 else if c=65 then some 8 else if c=122 then some 9 else none
def zBw (L:Str) (i:Nat):Option (WordD × Nat) :=
 match (if i+1<L.length then zEt (byt L (i+1)) else none) with
 | some s=>some ({kind:=1,place:=i,set:=s},i+2)
 | none =>
  match (if i+1<L.length then zGZ (byt L (i+1)) else none) with
  | some k=>some ({kind:=5,place:=i,spot:=k},i+2)
  | none=>(escP L i).map (fun (b,e)=>({kind:=1,place:=i,set:=ofS [(b:Int)]},e))
def zBT {α:Type}:Option α→Except Nat α
 | some a=>.ok a
 | none=>.error 4
def zJq (c:Nat):Option Nat:=if c=46 then some 2 else if c=94 then some 3 else if c=36 then some 4 else if c=41 then some 9 else if c=124 then some 10 else none
def zBc (L:Str) (i:Nat):Except Nat (WordD × Nat) :=
 let c:=byt L i
 if c=92 then zBT (zBw L i)
 else if c=91 then zBT (zCZ L i)
 else if c=40 then (if atP L (i+1) [63] then zBT (zBU L i) else .ok ({kind:=6,place:=i},i+1))
 else if c=123 then
  match zC0 L i with
  | some (lo,hi,e)=>zAj L i lo hi e
  | none=>.ok ({kind:=1,place:=i,set:=ofS [123]},i+1)
 else if c=42 then zAj L i 0 (-1) (i+1)
 else if c=43 then zAj L i 1 (-1) (i+1)
 else if c=63 then zAj L i 0 1 (i+1)
 else match zJq c with
  | some k=>.ok ({kind:=k,place:=i},i+1)
  | none=>.ok ({kind:=1,place:=i,set:=ofS [(c:Int)]},i+1)
def zA9 (L:Str):Nat→Nat→Except (Nat × Nat) (List WordD)
 | 0,i=>if i<L.length then .error (i,0) else .ok []
 | f+1,i =>
  if i<L.length then
   match zBc L i with
   | .error e=>.error (i,e)
   | .ok (w,j) =>
    match zA9 L f j with
    | .error x=>.error x
    | .ok l=>.ok (w::l)
  else .ok []
def zFQ (L:Str):Except (Nat × Nat) (List WordD):=zA9 L L.length 0
theorem zCv:zAs zBG:=zBv _
theorem zD6:zAs zC3:=zBv _
theorem zED:zAs zC2:=zBv _
theorem zFn:zAs zD3:=zBv _
theorem ok2 {s t:Nat→Nat} (hs:zAs s) (ht:zAs t):∀ x ∈ [s,t],zAs x:=by intro x hx;simp at hx;rcases hx with rfl|rfl<;>assumption
theorem ok3 {s t u:Nat→Nat} (hs:zAs s) (ht:zAs t) (hu:zAs u):∀ x ∈ [s,t,u],zAs x:=by intro x hx;simp at hx;rcases hx with rfl|rfl|rfl<;>assumption
theorem zD5:zAs zBt:=zCJ (ok3 zCv zD6 zED)
theorem zFa:zAs zDo:=zCJ (ok2 zD5 (zBv _))
theorem zB2 (lo n:Nat):zAs (zAm lo n):=zBv _
theorem zLy:∀ p ∈ namesL,zAs p.2:=by
 intro p hp;simp only[namesL,List.mem_cons,List.not_mem_nil,or_false]at hp;rcases hp with rfl|rfl|rfl|rfl|rfl|rfl|rfl|rfl|rfl|rfl|rfl|rfl|rfl|rfl
 ·exact zD5
 ·exact zCJ (ok2 zD6 zED)
 ·exact zB2 _ _
 ·exact zBv _
 ·exact zCJ (ok2 (zB2 _ _) (zBv _))
 ·exact zCv
 ·exact zFn
 ·exact zD6
 ·exact zB2 _ _
 ·exact zMB (ok2 zFn (zEx _))
 ·exact zCJ (ok2 (zB2 _ _) (zBv _))
 ·exact zED
 ·exact zFa
 ·exact zCJ (ok3 zCv (zB2 _ _) (zB2 _ _))
theorem zIN {n:Str} {s:Nat→Nat} (h:zEu n=some s):zAs s:=by
 unfold zEu at h;obtain⟨p,hp,rfl⟩:=Option.map_eq_some_iff.1 h;exact zLy p (List.mem_of_find?_eq_some hp)
theorem zJH {c:Nat} {s:Nat→Nat} (h:zEt c=some s):zAs s:=by
 unfold zEt at h;obtain⟨p,hp,rfl⟩:=Option.map_eq_some_iff.1 h;have:=List.mem_of_find?_eq_some hp;simp only[sortsL,List.mem_cons,List.not_mem_nil,or_false]at this;rcases this with rfl|rfl|rfl|rfl|rfl|rfl
 ·exact zCv
 ·exact zFa
 ·exact zBv _
 ·exact zEx _
 ·exact zEx _
 ·exact zEx _
theorem zOE {L t:Str} {i:Nat} (h:L.length<i+t.length) (ht:t≠[]):atP L i t=false:=by
 unfold atP;rw[Bool.eq_false_iff];intro hc;have:=List.IsPrefix.length_le (List.isPrefixOf_iff_prefix.1 hc);simp at this;have:0<t.length:=List.length_pos_iff.2 ht;omega
theorem zN7 {L t:Str} {i:Nat} (h:i+t.length≤L.length):((L.take (i+t.length)).drop i == t)=atP L i t:=by
 unfold atP;have e:(L.take (i+t.length)).drop i=(L.drop i).take t.length:=by rw[List.drop_take];congr 1;omega
 rw[e,Bool.eq_iff_iff,beq_iff_eq,List.isPrefixOf_iff_prefix,List.prefix_iff_eq_take,eq_comm]
theorem zHl (l:Str) (c:UInt8):numF (l++[c])=min (10 * numF l+(c.toNat - 48)) 101:=by simp[numF]
theorem zIz (l:Str):numF l≤101:=by
 rcases List.eq_nil_or_concat l with rfl|⟨l',c,rfl⟩
 ·simp[numF]
 ·rw[List.concat_eq_append,zHl];omega
theorem zHZ {L:Str} {k:Nat} (h:k<L.length):byt L k=L[k].toNat:=by
 unfold byt;rw[List.getD_eq_getElem?_getD,List.getElem?_eq_getElem h];rfl
theorem zIo {L:Str} {i b e:Nat} (h:escP L i=some (b,e)):i+2≤e∧e≤L.length∧b<256:=by
 unfold escP at h;split at h
 ·rename_i h1;split at h
  ·rename_i b' hp
   cases h
   refine⟨by omega,by omega,?_⟩
   unfold zGz at hp
   (repeat' split at hp)<;>first|(cases hp;omega)|cases hp
  ·split at h
   ·split at h
    ·split at h
     ·cases h
     ·rename_i x hx;split at h
      ·split at h
       ·cases h
       ·rename_i y hy
        cases h
        have hx1:x≤15:=by unfold hexP at hx;(repeat' split at hx)<;>first|(cases hx;omega)|cases hx
        have hy1:y≤15:=by unfold hexP at hy;(repeat' split at hy)<;>first|(cases hy;omega)|cases hy
        omega
      ·cases h
    ·cases h
   ·split at h
    ·cases h
    ·split at h
     ·cases h
     ·cases h
      have:=zDy L (i+1);omega
 ·cases h
theorem zEs {L:Str} {i b e:Nat} (h:zEV L i=some (b,e)):i+1≤e∧e≤L.length∧b<256:=by
 unfold zEV at h;split at h
 ·split at h
  ·have:=zIo h;omega
  ·cases h
   have:=zDy L i;omega
 ·cases h
theorem zHV {t:Str}:∀ {l:Str} {k:Nat},zFZ t l=some k→k+t.length≤l.length
 | [],k,h=>by
  unfold zFZ at h;split at h
  ·rename_i hp
   cases h
   have:=List.IsPrefix.length_le (List.isPrefixOf_iff_prefix.1 hp)
   simpa using this
  ·cases h
 | c::l,k,h=>by
  unfold zFZ at h;split at h
  ·rename_i hp
   cases h
   have:=List.IsPrefix.length_le (List.isPrefixOf_iff_prefix.1 hp);omega
  ·obtain⟨k',hk,rfl⟩:=Option.map_eq_some_iff.1 h;have:=zHV hk;simp;omega
theorem zDx {L t:Str} {i:Nat} (h:atP L i t=true) (ht:t≠[]):i+t.length≤L.length:=by
 by_cases hc:i+t.length≤L.length
 ·exact hc
 ·rw[zOE (by omega) ht]at h;cases h
theorem zL8 {L:Str} {i e:Nat} {s:Nat→Nat} (h:zKG L i=some (some (s,e))):i+4≤e∧e≤L.length∧zAs s:=by
 unfold zKG at h;split at h
 ·rename_i ha;have hl:=zDx ha (by simp)
  simp at hl;split at h
  ·cases h
  ·rename_i k hf;have hk:=zHV hf;simp at hk;simp only[]at h;split at h
   ·cases h
   ·rename_i s' hn;simp only[Option.some.injEq,Prod.mk.injEq]at h;obtain⟨h1,h2⟩:=h;refine⟨by omega,by omega,?_⟩
    subst h1;split
    ·exact zEx _
    ·exact zIN hn
 ·cases h
theorem zIm {L:Str} {i e:Nat} {s:Nat→Nat} (h:zFe L i=some (s,e)):i+1≤e∧e≤L.length∧zAs s:=by
 unfold zFe at h;split at h
 ·cases h
 ·rename_i lo k ht;have h1:=zEs ht;split at h
  ·split at h
   ·cases h
   ·rename_i hi e' ht2;have h2:=zEs ht2;split at h
    ·cases h
     exact⟨by omega,by omega,zB2 _ _⟩
    ·cases h
  ·cases h
   exact⟨by omega,by omega,zBv _⟩
theorem zFd {L:Str} {i e:Nat} {s:Nat→Nat} (h:zIb L i=some (s,e)):i+1≤e∧e≤L.length∧zAs s:=by
 unfold zIb at h;split at h
 ·rename_i r hr;subst h;have:=zL8 hr;exact⟨by omega,this.2.1,this.2.2⟩
 ·split at h
  ·rename_i s' hs;split at hs
   ·rename_i hc
    cases h
    exact⟨by omega,by omega,zJH hs⟩
   ·cases hs
  ·exact zIm h
section
variable {P:Program} {ops:Array Oper} {rest:List Oper} {o:Oper} {a:Act} {w w0:World} {Q:Exit→Act→World→Prop} {l:List Res}
end
def WordR (o:Option (WordD × Nat)) (e:Ending):Prop:=match o with
 | some (w,k)=>e=.returned (.tuple #[zAk w,.int .i64 k])
 | none=>∃ w,e=.returned (.tuple #[zAk w,.int .i64 (-1)])
theorem WordR.ok {o:Option (WordD × Nat)} {w:WordD} {k:Nat} (h:o=some (w,k)):WordR o (.returned (.tuple #[zAk w,.int .i64 k])):=by subst h;rfl
theorem zDA {L:Str} {i n k:Nat} (h:zDS L i=some (n,k)) (hi:i≤L.length):i+1≤k∧k≤L.length∧n≤101:=by
 unfold zDS at h;simp only[]at h;split at h
 ·cases h
 ·rename_i hc;simp only[Option.some.injEq,Prod.mk.injEq]at h;obtain⟨rfl,rfl⟩:=h;have h1:((L.drop i).takeWhile zA6).length≤(L.drop i).length:=(List.takeWhile_prefix _).length_le;have h2:((L.drop i).takeWhile zA6).length≠0:=fun e=>hc (.inl (List.length_eq_zero_iff.1 e))
  simp at h1;exact⟨by omega,by omega,zIz _⟩
theorem zEw {L:Str}:∀ (f k:Nat) (b:Bool) (S S':Nat→Nat) (e:Nat),k≤L.length→zB6 L f k b S=some (S',e)→k+1≤e∧e≤L.length
 | 0,_,_,_,_,_,_,h=>by cases h
 | f+1,k,b,S,S',e,hk,h=>by
  rw[zB6]at h;split at h
  ·rename_i hc;have:=zDx hc.2 (by simp)
   simp at this
   cases h
   omega
  ·split at h
   ·cases h
   ·rename_i t e' hi;have h1:=zFd hi;have:=zEw f e' false _ S' e h1.2.1 h;omega
theorem zLm {L:Str} {i e:Nat} {d:WordD} (hi:i<L.length) (h:zCZ L i=some (d,e)):i+1≤e∧e≤L.length:=by
 unfold zCZ at h;obtain⟨⟨S,e'⟩,h1,h2⟩:=Option.map_eq_some_iff.1 h
 cases h2
 split at h1
 ·rename_i ha;have:=zDx ha (by simp)
  simp at this;have:=zEw _ _ _ _ _ _ (by omega) h1
  omega
 ·have:=zEw _ _ _ _ _ _ (by omega) h1
  omega
theorem zDc {L:Str}:∀ (f k:Nat) (a b:Bool) (d d':WordD) (e:Nat),zAT L f k a b d=some (d',e)→k+1≤e∧e≤L.length
 | 0,_,_,_,_,_,_,h=>by cases h
 | f+1,k,a,b,d,d',e,h=>by
  rw[zAT]at h;split at h
  ·rename_i hk;simp only[]at h;split at h
   ·have:=zDc f _ _ _ _ _ _ h;omega
   ·split at h
    ·have:=zDc f _ _ _ _ _ _ h;omega
    ·split at h
     ·have:=zDc f _ _ _ _ _ _ h;omega
     ·split at h
      ·split at h
       ·cases h
       ·have:=zDc f _ _ _ _ _ _ h;omega
      ·split at h
       ·split at h
        ·cases h;omega
        ·cases h
       ·split at h
        ·split at h
         ·cases h;omega
         ·cases h
        ·cases h
  ·cases h
theorem zKw {L:Str} {i e:Nat} {d:WordD} (h:zBw L i=some (d,e)):i+1≤e∧e≤L.length:=by
 unfold zBw at h;split at h
 ·rename_i s hs;split at hs
  ·cases h;omega
  ·cases hs
 ·split at h
  ·rename_i k hk;split at hk
   ·cases h;omega
   ·cases hk
  ·obtain⟨⟨b,e'⟩,h1,h2⟩:=Option.map_eq_some_iff.1 h
   cases h2
   have:=zIo h1;omega
theorem zEL {L:Str} {i e k:Nat} {lo hi:Int} {d:WordD} (he:e≤L.length) (h:zAj L i lo hi e=.ok (d,k)):e≤k∧k≤L.length:=by
 unfold zAj at h;split at h
 ·cases h
 ·split at h
  ·rename_i ha;have:=zDx ha (by simp)
   simp at this
   cases h;omega
  ·cases h;omega
theorem zEO {α:Type} {o:Option α} {x:α} (h:zBT o=.ok x):o=some x:=by cases o<;>cases h;rfl
theorem zG8 {L:Str} {i lo e:Nat} {hi:Int} (h:zC0 L i=some (lo,hi,e)) (hi2:i<L.length):i+2≤e∧e≤L.length:=by
 unfold zC0 at h;split at h
 ·cases h
 ·rename_i n k hn;have h1:=zDA hn (by omega)
  split at h
  ·rename_i ha;have:=zDx ha (by simp)
   simp at this
   cases h
   omega
  ·split at h
   ·rename_i ha;have h2:=zDx ha (by simp)
    simp at h2;split at h
    ·cases h
    ·rename_i m e' hm;have h3:=zDA hm (by omega)
     split at h
     ·rename_i hb;have h4:=zDx hb (by simp)
      simp at h4
      cases h
      omega
     ·cases h
   ·split at h
    ·rename_i hb;have h4:=zDx hb (by simp)
     simp at h4
     cases h
     omega
    ·cases h
theorem zJB {L:Str} {i k:Nat} {d:WordD} (hi:i<L.length) (h:zBc L i=.ok (d,k)):i+1≤k∧k≤L.length:=by
 unfold zBc at h;simp only[]at h;split at h
 ·exact zKw (zEO h)
 ·split at h
  ·exact zLm hi (zEO h)
  ·split at h
   ·split at h
    ·have:=zDc _ _ _ _ _ _ _ (zEO h);omega
    ·cases h;omega
   ·split at h
    ·split at h
     ·rename_i lo hi2 e hb;have h1:=zG8 hb hi;have:=zEL (by omega) h
      omega
     ·cases h;omega
    ·split at h
     ·have:=zEL (by omega) h;omega
     ·split at h
      ·have:=zEL (by omega) h;omega
      ·split at h
       ·have:=zEL (by omega) h;omega
       ·split at h
        ·cases h;omega
        ·cases h;omega
def wcat (ws:List WordD):Except (Nat × Nat) (List WordD)→Except (Nat × Nat) (List WordD)
 | .error x=>.error x
 | .ok l=>.ok (ws++l)
theorem zMh (r:Except (Nat × Nat) (List WordD)):wcat [] r=r:=by cases r<;>rfl
theorem zMD {L:Str} {f j k:Nat} {d:WordD} {ws:List WordD} (hj:j<L.length) (h:zBc L j=.ok (d,k)):wcat ws (zA9 L (f+1) j)=wcat (ws++[d]) (zA9 L f k):=by
 rw[zA9,if_pos hj,h];simp only[]
 cases zA9 L f k with
 | error x=>rfl
 | ok l=>simp[wcat]
theorem zLW {L:Str} {f j x:Nat} {ws:List WordD} (hj:j<L.length) (h:zBc L j=.error x):wcat ws (zA9 L (f+1) j)=.error (j,x):=by
 rw[zA9,if_pos hj,h];rfl
theorem zLF {L:Str} {f j:Nat} {ws:List WordD} (hj:¬ j<L.length):wcat ws (zA9 L f j)=.ok ws:=by
 cases f with
 | zero=>rw[zA9,if_neg hj];simp[wcat]
 | succ f=>rw[zA9,if_neg hj];simp[wcat]
def zHS (ws:List WordD):List Value:=ws.flatMap (fun d=>(zAg d).toList)
theorem zJ2 (ws:List WordD) (d:WordD):zHS (ws++[d])=zHS ws++(zAg d).toList:=by simp[zHS]
theorem zDe {L:Str} {i e x:Nat} {lo hi:Int} (h:zAj L i lo hi e=.error x):x=6:=by
 unfold zAj at h;split at h
 ·cases h;rfl
 ·split at h<;>cases h
theorem zGS {α:Type} {o:Option α} {x:Nat} (h:zBT o=.error x):x=4:=by cases o<;>cases h;rfl
theorem zHj {L:Str} {i x:Nat} (h:zBc L i=.error x):x=4∨x=6:=by
 unfold zBc at h;simp only[]at h;split at h
 ·exact .inl (zGS h)
 ·split at h
  ·exact .inl (zGS h)
  ·split at h
   ·split at h
    ·exact .inl (zGS h)
    ·cases h
   ·split at h
    ·split at h
     ·exact .inr (zDe h)
     ·cases h
    ·split at h
     ·exact .inr (zDe h)
     ·split at h
      ·exact .inr (zDe h)
      ·split at h
       ·exact .inr (zDe h)
       ·split at h<;>cases h
section
variable {M:Nat→Prop} {w0 W W':World} {l:List Res}
theorem HoldG.kn (H:HoldG M w0 W l) {i:Nat} {F:Nat→Prop} {S:World→Prop} (hi:At l i (.kn F S)):S W:=(H.all i _ hi.get).2 W (fun _ _=>rfl)
theorem HoldG.knlt (H:HoldG M w0 W l) {i:Nat} {F:Nat→Prop} {S:World→Prop} (hi:At l i (.kn F S)):∀ b,F b→b<W.heap.size:=(H.all i _ hi.get).1
theorem HoldG.know (H:HoldG M w0 W l) (F:Nat→Prop) (S:World→Prop) (hlt:∀ b,F b→b<W.heap.size) (hap:∀ (i:Nat) (r:Res),l[i]?=some r→∀ b,r.place=some b→¬ F b)
  (hS:∀ V:World,(∀ b,F b→V.heap[b]?=W.heap[b]?)→S V):HoldG M w0 W (l++[.kn F S]):=by
 refine⟨H.keep,?_,?_⟩
 ·intro j s hs;rw[List.getElem?_append]at hs;split at hs
  ·exact H.all j s hs
  ·rcases List.getElem?_eq_some_iff.1 hs with ⟨h1,h2⟩
   simp at h1;simp[h1]at h2;subst h2;exact⟨hlt,hS⟩
 ·intro j k s t hjk hs ht;rw[List.getElem?_append]at hs ht;split at hs
  ·split at ht
   ·exact H.apart j k s t hjk hs ht
   ·rcases List.getElem?_eq_some_iff.1 ht with ⟨h1,h2⟩
    simp at h1;simp[h1]at h2;subst h2;exact hap j s hs
  ·rcases List.getElem?_eq_some_iff.1 hs with ⟨h1,h2⟩
   simp at h1;simp[h1]at h2;subst h2;intro b h;cases h
def Still (l:List Res) (G:Nat→Prop):Prop:=∀ b,G b→∃ (i:Nat) (r:Res),l[i]?=some r∧r.place=none∧r.foot b
theorem Still.none:Still l (fun _=>False):=fun _ h=>h.elim
theorem Still.at {i:Nat} {F:Nat→Prop} {S:World→Prop} (hi:At l i (.kn F S)):Still l F:=fun b hb=>⟨i,_,hi.get,rfl,hb⟩
theorem Still.or {F G:Nat→Prop} (h:Still l F) (k:Still l G):Still l (fun b=>F b∨G b):=fun b hb=>hb.elim (h b) (k b)
theorem Still.apart (H:HoldG M w0 W l) {G:Nat→Prop} (h:Still l G):∀ (i:Nat) (r:Res),l[i]?=some r→∀ b,r.place=some b→¬ G b:=by
 intro i r hi b hb hg;obtain⟨j,s,hj,hs,hf⟩:=h b hg
 by_cases e:i=j
 ·subst e;rw[hi]at hj;cases hj
  rw[hs]at hb;cases hb
 ·exact H.apart i j r s e hi hj b hb hf
theorem Still.lt (H:HoldG M w0 W l) {G:Nat→Prop} (h:Still l G):∀ b,G b→b<W.heap.size:=fun b hb=>by
 obtain⟨j,s,hj,hs,hf⟩:=h b hb;exact(H.all j s hj).ltf b hf
theorem HoldG.also (H:HoldG M w0 W l) (F:Nat→Prop) (S:World→Prop) (hF:Still l F) (hS:∀ V:World,(∀ b,F b→V.heap[b]?=W.heap[b]?)→S V):HoldG M w0 W (l++[.kn F S]) :=
 H.know F S (hF.lt H) (hF.apart H) hS
theorem HoldG.learn (H:HoldG M w0 W l) (hb:Below W.heap.size W W') {F G:Nat→Prop} {S:World→Prop} (hG:Still l G) (hF:∀ b,F b→b<W'.heap.size∧(W.heap.size≤b∨G b))
  (hS:∀ V:World,(∀ b,F b→V.heap[b]?=W'.heap[b]?)→S V):HoldG M w0 W' (l++[.kn F S]) :=
 (H.call hb).know F S (fun b h=>(hF b h).1) (fun i r hi b hp hf=>by
  rcases(hF b hf).2 with h|h
  ·have:=((H.all i r hi).lt b hp).2;omega
  ·exact hG.apart H i r hi b hp h) hS
theorem HoldG.pick (H:HoldG M w0 W l) (js:List Nat) (l':List Res) (hn:js.Nodup) (h:js.map (fun j=>l[j]?)=l'.map some):HoldG M w0 W l':=by
 have hlen:js.length=l'.length:=by simpa using congrArg List.length h
 have key:∀ (i:Nat) (r:Res),l'[i]?=some r→∃ j:Nat,js[i]?=some j∧l[j]?=some r:=by
  intro i r hi;have h1:(l'.map some)[i]?=some (some r):=by rw[List.getElem?_map,hi];rfl
  rw[← h,List.getElem?_map]at h1;obtain⟨j,hj,e⟩:=Option.map_eq_some_iff.1 h1;exact⟨j,hj,e⟩
 refine⟨H.keep,fun i r hi=>?_,fun i k r s hik hi hk=>?_⟩
 ·obtain⟨j,_,e⟩:=key i r hi;exact H.all j r e
 ·obtain⟨j,hj,e⟩:=key i r hi;obtain⟨m,hm,e'⟩:=key k s hk;refine H.apart j m r s (fun ejm=>hik ?_) e e'
  subst ejm;obtain⟨h1,h1'⟩:=List.getElem?_eq_some_iff.1 hj;obtain⟨h2,h2'⟩:=List.getElem?_eq_some_iff.1 hm;exact(List.getElem_inj hn).1 (h1'.trans h2'.symm)
end
def RdN (sz:Nat) (W:World) (F:Nat→Prop) (s:Value) (rows:List (Array Value)):Prop :=
 ∃ p cap,s=.slice p rows.length cap∧rows.length≤cap∧cap≤maxLen∧(p=none→cap=0) ∧
  ∀ (j:Nat) (r:Array Value),rows[j]?=some r→∃ b off,p=some ⟨b,off,none⟩∧F b∧r.size=sz∧∀ k,k<sz→W.cell? ⟨b,off+j * sz+k,none⟩=r[k]?
theorem RdN.kept {sz:Nat} {W V:World} {F:Nat→Prop} {s:Value} {rows:List (Array Value)} (h:RdN sz W F s rows) (hk:∀ b,F b→V.heap[b]?=W.heap[b]?):RdN sz V F s rows:=by
 obtain⟨p,cap,e,h1,h2,h0,h3⟩:=h;refine⟨p,cap,e,h1,h2,h0,fun j r hj=>?_⟩
 obtain⟨b,off,e1,e2,e3,e4⟩:=h3 j r hj;refine⟨b,off,e1,e2,e3,fun k hk'=>?_⟩
 rw[← e4 k hk'];simp[World.cell?,hk b e2]
theorem RdN.mono {sz:Nat} {W:World} {F G:Nat→Prop} {s:Value} {rows:List (Array Value)} (h:RdN sz W F s rows) (hFG:∀ b,F b→G b):RdN sz W G s rows:=by
 obtain⟨p,cap,e,h1,h2,h0,h3⟩:=h;exact⟨p,cap,e,h1,h2,h0,fun j r hj=>let ⟨b,off,e1,e2,e3⟩:=h3 j r hj;⟨b,off,e1,hFG b e2,e3⟩⟩
theorem RdN.nil (sz:Nat) (W:World) (F:Nat→Prop) (p:Option Addr):RdN sz W F (.slice p 0 0) []:=⟨p,0,rfl,Nat.le_refl _,by simp,fun _=>rfl,fun j r h=>by simp at h⟩
def zAc (rows:List (Array Value)):List Value:=(rows.map Array.toList).flatten
theorem zBe (rows rows':List (Array Value)):zAc (rows++rows')=zAc rows++zAc rows':=by simp[zAc]
theorem zHw (r:Array Value):zAc [r]=r.toList:=by simp[zAc]
theorem zBj {sz:Nat}:∀ {rows:List (Array Value)},(∀ r ∈ rows,r.size=sz)→(zAc rows).length=rows.length * sz
 | [],_=>by simp[zAc]
 | r::rows,h=>by
  have ih:=zBj (rows:=rows) (fun r hr=>h r (List.mem_cons_of_mem _ hr))
  have h1:=h r (List.mem_cons_self ..);simp only[zAc,List.map_cons,List.flatten_cons,List.length_append,List.length_cons]at *;rw[ih,Array.length_toList,h1,Nat.succ_mul];omega
theorem zDG {sz:Nat}:∀ {rows:List (Array Value)},(∀ r ∈ rows,r.size=sz)→∀ {j:Nat} {r:Array Value} {k:Nat},rows[j]?=some r→k<sz→(zAc rows)[j * sz+k]?=r[k]?
 | [],_,_,_,_,h,_=>by simp at h
 | q::rows,hs,0,r,k,h,hk=>by
  simp at h;subst h;have h1:=hs q (List.mem_cons_self ..);simp only[zAc,List.map_cons,List.flatten_cons];rw[Nat.zero_mul,Nat.zero_add,List.getElem?_append_left (by simp;omega)]
  simp
 | q::rows,hs,j+1,r,k,h,hk=>by
  have h1:=hs q (List.mem_cons_self ..);have ih:=zDG (rows:=rows) (fun r hr=>hs r (List.mem_cons_of_mem _ hr)) (j:=j) (r:=r) (k:=k) (by simpa using h) hk
  simp only[zAc,List.map_cons,List.flatten_cons]at *;rw[Nat.succ_mul,List.getElem?_append_right (by simp;omega),← ih]
  simp only[Array.length_toList,h1]
  congr 1;omega
theorem RdN.of_own {sz:Nat} {w V:World} {base:Nat} {e:TypeId} {v:Value} {n:Nat} {rows:List (Array Value)} (h:w.ownsRow base e sz v n (zAc rows)) (hs:∀ r ∈ rows,r.size=sz) (hl:rows.length=n)
  (hk:∀ b,v.ownBlock=some b→V.heap[b]?=w.heap[b]?):RdN sz V (fun b=>v.ownBlock=some b) v rows:=by
 subst hl;obtain⟨_,⟨rfl,hn⟩|⟨g,cap,cur,rfl,hb,hg,hn,hc,hsz,ht⟩⟩:=h
 ·rw[List.length_eq_zero_iff.1 hn];exact RdN.nil ..
 ·refine⟨_,cap,rfl,hn,hc,(fun h=>by cases h),fun j r hj=>⟨g,0,rfl,rfl,hs r (List.mem_of_getElem? hj),fun k hk'=>?_⟩⟩
  have hg':V.heap[g]?=some (.cells cur e (0,0)):=(hk g rfl).trans hg;have hlt:=(List.getElem?_eq_some_iff.1 hj).1;rw[cell_of_row V g (0+j * sz+k) cur e (0,0) hg',Nat.zero_add,← zDG hs hj hk',← ht,List.getElem?_take,if_pos,Array.getElem?_toList];have:(j+1) * sz≤rows.length * sz:=Nat.mul_le_mul_right _ hlt;rw[Nat.succ_mul]at this;omega
section
variable {P:Program} {ops:Array Oper} {rest:List Oper} {o:Oper} {a:Act} {w w0:World} {Q:Exit→Act→World→Prop} {l:List Res} {M:Nat→Prop}
theorem zIy {T:TypeId} {b k n:Nat} {vs:Array Value} (hT:rowB P T n=true) (hn:vs.size=n) (hv:∀ j,j<n→w.cell? ⟨b,k+j,none⟩=vs[j]?):(loadVar T ⟨b,k,none⟩).run P w=.ok (.agg vs) w:=by
 obtain⟨d,hu,hd,hs⟩:=zE5 hT
 have:=run_loadVar_mid (P:=P) w b k T vs.toList d (fun j v hj=>by
  have hlt:j<n:=by have:=(List.getElem?_eq_some_iff.1 hj).1;simp at this;omega
  rw[hv j hlt];simpa using hj) hu hd (by rw[hs];simp[hn])
 simpa using this
theorem zCI {T:TypeId} {x:Operand} (ho:o.op=.load T x) {b k n:Nat} (hx:a.eval x=.pointer (some ⟨b,k,none⟩)) {vs:Array Value} (hT:rowB P T n=true) (hn:vs.size=n) (hv:∀ j,j<n→w.cell? ⟨b,k+j,none⟩=vs[j]?) :
  (execOp a.eval o).run P w=.ok (.value (.agg vs)) w:=by
 unfold execOp;simp only[ho,hx,Instr.loadAt,Instr.sureAddr,Sem.run_bind,Sem.run_pure,Result.andThen_ok,zIy hT hn hv]
theorem zBb (hg:Region.wanted o (yielded ops a.tmps)=true) (T:TypeId) (x:Operand) (ho:o.op=.load T x) {b k n:Nat} (hx:a.eval x=.pointer (some ⟨b,k,none⟩)) {vs:Array Value} (hT:rowB P T n=true) (hn:vs.size=n) (hv:∀ j,j<n→w.cell? ⟨b,k+j,none⟩=vs[j]?)
  (h:wpList P ops Q rest (a.put o.dst (.agg vs)) w):wpList P ops Q (o::rest) a w :=
 zAx hg (zCI ho hx hT hn hv) h
theorem zAL {T:TypeId} {x:Operand} (ho:o.op=.load T x) {ad:Addr} (hx:a.eval x=.pointer (some ad)) (hT:oneB P T=true) {v:Value} (hv:w.cell? ad=some v) :
  (execOp a.eval o).run P w=.ok (.value v) w:=by
 unfold execOp;simp only[ho,hx,Instr.loadAt,Instr.sureAddr,Sem.run_bind,Sem.run_pure,Result.andThen_ok,zA4 hT hv]
theorem zAH (hg:Region.wanted o (yielded ops a.tmps)=true) (T:TypeId) (x:Operand) (ho:o.op=.load T x) {ad:Addr} (hx:a.eval x=.pointer (some ad)) (hT:oneB P T=true) {v:Value} (hv:w.cell? ad=some v)
  (h:wpList P ops Q rest (a.put o.dst v) w):wpList P ops Q (o::rest) a w :=
 zAx hg (zAL ho hx hT hv) h
theorem HoldG.rowCell (H:HoldG M w0 w l) {i g n cap sz:Nat} {e:TypeId} {rows:List (Array Value)} (hi:At l i (.row (.slice (some ⟨g,0,none⟩) n cap) e sz n (zAc rows))) (hs:∀ r ∈ rows,r.size=sz) (hl:rows.length=n) {j:Nat} {r:Array Value} (hj:rows[j]?=some r) {q:Nat} (hq:j * sz=q) :
  ∀ k,k<sz→w.cell? ⟨g,q+k,none⟩=r[k]?:=by
 subst hq;intro k hk;have h:=RdN.of_own (V:=w) (H.all i _ hi.get) hs hl (fun _ _=>rfl)
 obtain⟨p,c,e1,_,_,_,h3⟩:=h;obtain⟨b,off,e2,_,_,h4⟩:=h3 j r hj
 cases e1;cases e2
 have:=h4 k hk
 rwa [Nat.zero_add]at this
theorem zLj:∀ (vs:List Value) (cs:Array Value) (k:Nat),(zBE cs k vs).size=cs.size
 | [],_,_=>rfl
 | v::r,cs,k=>by
  show (zBE (cs.setIfInBounds k v) (k+1) r).size=_
  rw[zLj r];simp
theorem zLX {sz:Nat} {rows:List (Array Value)} (hs:∀ r ∈ rows,r.size=sz) {vs:Array Value} (hv:vs.size=sz) {i:Nat} (hi:i<rows.length):(zBE (zAc rows).toArray (i * sz) vs.toList).toList=zAc (rows.set i vs):=by
 have hs':∀ r ∈ rows.set i vs,r.size=sz:=fun r hr=>(List.mem_or_eq_of_mem_set hr).elim (hs r) (fun e=>e ▸ hv)
 have hz:0<sz∨sz=0:=by omega
 apply List.ext_getElem?;intro j;rw[Array.getElem?_toList,zDd];simp only[Array.length_toList,List.size_toArray,List.getElem?_toArray,hv,zBj hs];rcases hz with hz|hz
 ·by_cases hj:j<rows.length * sz
  ·have hd:j=j / sz * sz+j % sz:=by rw[Nat.mul_comm];exact(Nat.div_add_mod j sz).symm
   have hm:j % sz<sz:=Nat.mod_lt _ hz;have hq:j / sz<rows.length:=Nat.div_lt_of_lt_mul (by rw[Nat.mul_comm];exact hj)
   by_cases e:j / sz=i
   ·rw[if_pos ⟨by rw[← e];omega,by rw[← e];omega,hj⟩]
    have h2:=zDG hs' (j:=i) (r:=vs) (k:=j % sz) (by rw[List.getElem?_set];simp[hi]) hm
    rw[show i * sz+j % sz=j from by rw[← e];omega]at h2
    rw[h2,Array.getElem?_toList,show j - i * sz=j % sz from by rw[← e];omega]
   ·rw[if_neg (fun h=>e (by
     have h1:=h.1;have h2:=h.2.1;have a1:i≤j / sz:=(Nat.le_div_iff_mul_le hz).2 h1;have a2:j / sz<i+1:=Nat.div_lt_of_lt_mul (by rw[Nat.mul_comm,Nat.succ_mul];exact h2)
     omega))]
    have hr:rows[j / sz]?=some rows[j / sz]:=List.getElem?_eq_getElem hq;have h1:=zDG hs hr hm;have h2:=zDG hs' (j:=j / sz) (r:=rows[j / sz]) (k:=j % sz) (by rw[List.getElem?_set,if_neg (fun e'=>e e'.symm)];exact hr) hm
    rw[← hd]at h1 h2;rw[h1,h2]
  ·rw[if_neg (fun h=>hj h.2.2),List.getElem?_eq_none (by rw[zBj hs];omega),List.getElem?_eq_none (by rw[zBj hs',List.length_set];omega)]
 ·subst hz;have e1:zAc rows=[]:=List.length_eq_zero_iff.1 (by rw[zBj hs,Nat.mul_zero])
  have e2:zAc (rows.set i vs)=[]:=List.length_eq_zero_iff.1 (by rw[zBj hs',Nat.mul_zero])
  rw[e1,e2];simp
theorem zBg (hg:Region.wanted o (yielded ops a.tmps)=true) (T:TypeId) (x y:Operand) (ho:o.op=.store T x y) {g i sz n cap q:Nat} (hx:a.eval x=.pointer (some ⟨g,q,none⟩)) (hq:i * sz=q) {vs:Array Value} (hy:a.eval y=.agg vs) (H:HoldG M w0 w l) {j:Nat} {e:TypeId} {rows:List (Array Value)}
  (hi:At l j (.row (.slice (some ⟨g,0,none⟩) n cap) e sz n (zAc rows))) (hs:∀ r ∈ rows,r.size=sz) (hl:rows.length=n)
  (hT:zCx P T sz=true) (hv:vs.size=sz) (h1:vs.toList.all (·.oneCell')=true) (hin:i<n) (h:∀ w',HoldG M w0 w' (l.set j (.row (.slice (some ⟨g,0,none⟩) n cap) e sz n (zAc (rows.set i vs))))→wpList P ops Q rest (a.put o.dst undef) w'):wpList P ops Q (o::rest) a w :=
 zAd hg fun _ hK=>by
  subst hq hl;have hs':∀ r ∈ rows.set i vs,r.size=sz:=fun r hr=>(List.mem_or_eq_of_mem_set hr).elim (hs r) (fun e=>e ▸ hv)
  obtain⟨hlen,⟨hv',_⟩|⟨g',cap',cur,hv',hb,hg',hn,hc,hsz,ht⟩⟩:=H.all j _ hi.get
  ·cases hv'
  ·cases hv'
   have hm1:(i+1) * sz≤rows.length * sz:=Nat.mul_le_mul_right _ hin;have hm2:rows.length * sz≤cap * sz:=Nat.mul_le_mul_right _ hn;have hm3:(i+1) * sz=i * sz+sz:=Nat.succ_mul i sz;have hth:w.there g (i * sz) vs.size:=fun q hq=>by
    rw[cell_of_row w g (i * sz+q) cur e (0,0) hg'];simp[World.frozen?,hg'];omega
   unfold Oper.wp execOp;simp only[ho,hx,hy,Instr.storeAt,Instr.sureAddr,Sem.run_bind,Sem.run_pure,Result.andThen_ok,run_storeVar_mid (P:=P) w g (i * sz) T vs hth (by subst hv;simpa [zCx] using hT) (by rw[Array.all_toList]at h1;exact h1)]
   have hh:=zC6 vs.toList (i * sz) w g cur e _ hg';refine hK _ _ (h _ (H.upd hi.get (zCm vs.toList (i * sz) w g) ⟨?_,.inr ⟨g,cap,_,rfl,hb,hh,hn,hc,?_,?_⟩⟩ (fun _ e=>.inl e)))
   ·rw[zBj hs',List.length_set]
   ·rw[zLj,hsz]
   ·rw[← zLX hs hv hin];have hfl:(zAc rows).length=rows.length * sz:=zBj hs;apply List.ext_getElem?;intro q;rw[List.getElem?_take,Array.getElem?_toList,Array.getElem?_toList,zDd,zDd];simp only[Array.length_toList,List.size_toArray,List.getElem?_toArray,hfl,hsz];have hcur:q<rows.length * sz→cur[q]?=(zAc rows)[q]?:=fun hq=>by
     rw[← ht,List.getElem?_take,if_pos hq,Array.getElem?_toList]
    by_cases hq:q<rows.length * sz
    ·rw[if_pos hq]
     by_cases hc1:i * sz≤q∧q<i * sz+vs.size∧q<cap * sz
     ·rw[if_pos hc1,if_pos ⟨hc1.1,hc1.2.1,hq⟩]
     ·rw[if_neg hc1,if_neg (fun h'=>hc1 ⟨h'.1,h'.2.1,by omega⟩),hcur hq]
    ·rw[if_neg hq,if_neg (fun h'=>hq h'.2.2),List.getElem?_eq_none (by omega)]
end
theorem zIa {w:World} {base:Nat} {e:TypeId} {sz g n cap m:Nat} {xs:List Value} (h:w.ownsRow base e sz (.slice (some ⟨g,0,none⟩) n cap) n xs) (hm:m≤n):w.ownsRow base e sz (.slice (some ⟨g,0,none⟩) m cap) m (xs.take (m * sz)):=by
 have hmn:m * sz≤n * sz:=Nat.mul_le_mul_right _ hm;obtain⟨hl,⟨hv,_⟩|⟨g',cap',cur,hv,hb,hg,hn,hc,hsz,ht⟩⟩:=h
 ·cases hv
 ·cases hv
  refine⟨by rw[List.length_take];omega,.inr ⟨g,cap,cur,rfl,hb,hg,by omega,hc,hsz,?_⟩⟩
  rw[← ht,List.take_take,Nat.min_eq_left hmn]
section
variable {M:Nat→Prop} {w0 w:World} {l:List Res}
theorem HoldG.cutRow (H:HoldG M w0 w l) {i g n cap m sz:Nat} {e:TypeId} {xs:List Value} (hi:At l i (.row (.slice (some ⟨g,0,none⟩) n cap) e sz n xs)) (hm:m≤n):HoldG M w0 w (l.set i (.row (.slice (some ⟨g,0,none⟩) m cap) e sz m (xs.take (m * sz)))) :=
 H.upd hi.get ⟨rfl,rfl,rfl,Nat.le_refl _,fun _ _ _=>rfl⟩ (zIa (H.all i _ hi.get) hm) (fun _ e=>.inl e)
theorem HoldG.rowShape (H:HoldG M w0 w l) {i n sz:Nat} {e:TypeId} {v:Value} {xs:List Value} (hi:At l i (.row v e sz n xs)):∃ q cap,v=.slice q n cap∧n≤cap∧cap≤maxLen∧(0<n→∃ g,q=some ⟨g,0,none⟩):=by
 obtain⟨_,⟨hv,hn⟩|⟨g,cap,cur,hv,_,_,hn,hc,_⟩⟩:=H.all i _ hi.get
 ·exact⟨none,0,by rw[hv,hn],by omega,by simp,fun h=>by omega⟩
 ·exact⟨_,cap,hv,hn,hc,fun _=>⟨g,rfl⟩⟩
end
section
variable {M:Nat→Prop} {w0 W:World} {l:List Res}
theorem HoldG.restG (H:HoldG M w0 W l) {i:Nat} {r:Res} (hi:At l i r) (G:Nat→Prop) (S:World→Prop) (hG:∀ b,G b→r.foot b∨∃ (j:Nat) (s:Res),l[j]?=some s∧s.place=none∧s.foot b) (hS:∀ V:World,(∀ b,G b→V.heap[b]?=W.heap[b]?)→S V):HoldG M w0 W (l.set i (.kn G S)):=by
 have hil:i<l.length:=(List.getElem?_eq_some_iff.1 hi.get).1;refine⟨H.keep,fun j s hs=>?_,fun j k s t hjk hs ht=>?_⟩
 ·rw[List.getElem?_set]at hs;split at hs
  ·rename_i e;subst e;cases hs
   refine⟨fun b hb=>?_,hS⟩
   rcases hG b hb with h|⟨j,s,hj,_,h⟩
   ·exact(H.all _ r hi.get).ltf b h
   ·exact(H.all j s hj).ltf b h
  ·exact H.all j s hs
 ·rw[List.getElem?_set]at hs ht;split at hs
  ·rename_i e;subst e;cases hs
   intro b hb;cases hb
  ·rename_i hne;split at ht
   ·rename_i e;subst e;cases ht
    intro b hb hf;rcases hG b hf with h|⟨z,u,hz,hu,h⟩
    ·exact H.apart j i s r hjk hs hi.get b hb h
    ·by_cases e:j=z
     ·subst e;rw[hs]at hz;cases hz;rw[hu]at hb;cases hb
     ·exact H.apart j z s u e hs hz b hb h
   ·exact H.apart j k s t hjk hs ht
end
structure NodeD where
 kind:Int
 set:Nat→Nat:=zAF
 lo:Int:=0
 hi:Int:=0
 lazy:Bool:=false
 group:Int:=0
inductive Tree where
 | mk (d:NodeD) (kids:List Tree)
def Tree.d:Tree→NodeD|.mk d _=>d
def Tree.kids:Tree→List Tree|.mk _ k=>k
mutual
def zAl:Tree→Nat
 | .mk _ ks=>1+zAO ks
def zAO:List Tree→Nat
 | []=>0
 | t::r=>zAl t+zAO r
end
mutual
def zC8:Tree→Nat
 | .mk _ ks=>zA5 ks+1
def zA5:List Tree→Nat
 | []=>0
 | t::r=>max (zC8 t) (zA5 r)
end
theorem zEj (t:Tree):zAl t=1+zAO t.kids:=by cases t;simp[zAl,Tree.kids]
theorem zI9 (t:Tree):zC8 t=zA5 t.kids+1:=by cases t;simp[zC8,Tree.kids]
theorem zD4 (t:Tree):0<zAl t:=by rw[zEj];omega
theorem zA2:∀ (a b:List Tree),zAO (a++b)=zAO a+zAO b
 | [],b=>by simp[zAO]
 | t::r,b=>by simp only[List.cons_append,zAO];rw[zA2 r b];omega
theorem zEn:∀ (a b:List Tree),zA5 (a++b)=max (zA5 a) (zA5 b)
 | [],b=>by simp[zA5]
 | t::r,b=>by simp only[List.cons_append,zA5];rw[zEn r b];omega
theorem zCT (t:Tree):zAO [t]=zAl t:=by simp[zAO]
theorem zJ0 (t:Tree):zA5 [t]=zC8 t:=by simp[zA5]
theorem zEv {α:Type} {l:List α} {i:Nat} {x:α} (h:l[i]?=some x):l.take (i+1)=l.take i++[x]:=by
 rw[List.take_add_one,h];rfl
theorem zFp {ts:List Tree} {i:Nat} {t:Tree} (h:ts[i]?=some t):zAO (ts.take (i+1))=zAO (ts.take i)+zAl t:=by
 rw[zEv h,zA2,zCT]
theorem zIn {ts:List Tree} {i:Nat} {t:Tree} (h:ts[i]?=some t):zA5 (ts.take (i+1))=max (zA5 (ts.take i)) (zC8 t):=by
 rw[zEv h,zEn,zJ0]
theorem zKK {ts:List Tree} {i:Nat} {t:Tree} (h:ts[i]?=some t):zAO (ts.take i)+zAl t≤zAO ts:=by
 rw[← zFp h]
 conv=>rhs;rw[← List.take_append_drop (i+1) ts,zA2]
 omega
theorem zKE:∀ ts:List Tree,ts.length≤zAO ts
 | []=>by simp
 | t::r=>by have:=zKE r;have:=zD4 t;simp only[List.length_cons,zAO];omega
mutual
theorem zGD:∀ t:Tree,zC8 t≤zAl t
 | .mk d ks=>by have:=zFA ks;simp only[zC8,zAl];omega
theorem zFA:∀ ts:List Tree,zA5 ts≤zAO ts
 | []=>by simp[zA5]
 | t::r=>by have:=zGD t;have:=zFA r;simp only[zA5,zAO];omega
end
def zAQ (d:NodeD) (s:Value):Array Value:=#[.int .i64 d.kind,.int .u64 (d.set 0),.int .u64 (d.set 1),.int .u64 (d.set 2),.int .u64 (d.set 3),s,.int .i64 d.lo,.int .i64 d.hi,.bool d.lazy,.int .i64 d.group]
theorem ng0 (d:NodeD) (s:Value):(zAQ d s)[0]?=some (.int .i64 d.kind):=rfl
theorem ng5 (d:NodeD) (s:Value):(zAQ d s)[5]?=some s:=rfl
theorem ng6 (d:NodeD) (s:Value):(zAQ d s)[6]?=some (.int .i64 d.lo):=rfl
theorem ng7 (d:NodeD) (s:Value):(zAQ d s)[7]?=some (.int .i64 d.hi):=rfl
theorem ng8 (d:NodeD) (s:Value):(zAQ d s)[8]?=some (.bool d.lazy):=rfl
theorem ng9 (d:NodeD) (s:Value):(zAQ d s)[9]?=some (.int .i64 d.group):=rfl
abbrev zAa (d:NodeD) (s:Value):Value:=.agg (zAQ d s)
abbrev nilS:Value:=.slice none 0 0
abbrev TV:=Tree × Option Addr × Nat
abbrev zAo (x:TV):Array Value:=zAQ x.1.d (.slice x.2.1 x.1.kids.length x.2.2)
theorem zBQ (x:TV):(zAo x).size=10:=rfl
theorem zBh (xs:List TV):∀ r ∈ xs.map zAo,r.size=10:=by
 intro r hr;obtain⟨x,_,rfl⟩:=List.mem_map.1 hr;rfl
inductive ForestR (W:World) (F:Nat→Prop):Option Addr→Nat→List Tree→Prop where
 | mk (p:Option Addr) (c:Nat) (ts:List Tree) (xs:List TV) (h:RdN 10 W F (.slice p ts.length c) (xs.map zAo)) (hk:∀ x ∈ xs,ForestR W F x.2.1 x.2.2 x.1.kids) (e:ts=xs.map (·.1)):ForestR W F p c ts
theorem ForestR.kept {W V:World} {F:Nat→Prop} {p:Option Addr} {c:Nat} {ts:List Tree} (h:ForestR W F p c ts) (hk:∀ b,F b→V.heap[b]?=W.heap[b]?):ForestR V F p c ts:=by
 induction h with
 | mk p c ts xs h _ e ih=>exact .mk p c ts xs (h.kept hk) ih e
theorem ForestR.mono {W:World} {F G:Nat→Prop} {p:Option Addr} {c:Nat} {ts:List Tree} (h:ForestR W F p c ts) (hFG:∀ b,F b→G b):ForestR W G p c ts:=by
 induction h with
 | mk p c ts xs h _ e ih=>exact .mk p c ts xs (h.mono hFG) ih e
theorem ForestR.nil (W:World) (F:Nat→Prop) (p:Option Addr):ForestR W F p 0 []:=.mk _ _ _ [] (RdN.nil ..) (fun _ h=>by cases h) rfl
def ListR (W:World) (F:Nat→Prop) (xs:List TV):Prop:=∀ x ∈ xs,ForestR W F x.2.1 x.2.2 x.1.kids
theorem ListR.kept {W V:World} {F:Nat→Prop} {xs:List TV} (h:ListR W F xs) (hk:∀ b,F b→V.heap[b]?=W.heap[b]?):ListR V F xs:=fun x hx=>(h x hx).kept hk
theorem ListR.mono {W:World} {F G:Nat→Prop} {xs:List TV} (h:ListR W F xs) (hFG:∀ b,F b→G b):ListR W G xs:=fun x hx=>(h x hx).mono hFG
theorem ListR.append {W:World} {F:Nat→Prop} {xs ys:List TV} (h:ListR W F xs) (k:ListR W F ys):ListR W F (xs++ys):=fun x hx=>(List.mem_append.1 hx).elim (h x) (k x)
theorem ListR.nil (W:World) (F:Nat→Prop):ListR W F []:=fun _ h=>by cases h
theorem ListR.one {W:World} {F:Nat→Prop} {t:Tree} {p:Option Addr} {c:Nat} (h:ForestR W F p c t.kids):ListR W F [(t,p,c)]:=fun x hx=>by
 rw[List.mem_singleton]at hx;subst hx;exact h
theorem ForestR.open {W:World} {F:Nat→Prop} {p:Option Addr} {c:Nat} {ts:List Tree} (h:ForestR W F p c ts):∃ xs:List TV,RdN 10 W F (.slice p xs.length c) (xs.map zAo)∧ListR W F xs∧ts=xs.map (·.1):=by
 cases h with
 | mk p c ts xs h hk e =>
  have hl:ts.length=xs.length:=by rw[e,List.length_map]
  rw[hl]at h;exact⟨xs,h,hk,e⟩
def zIW (w:World) (G:Nat→Prop) (t:Tree) (e:Ending) (w':World):Prop :=
 ∃ p c F,e=.returned (zAa t.d (.slice p t.kids.length c))∧ForestR w' F p c t.kids∧∀ b,F b→b<w'.heap.size∧(w.heap.size≤b∨G b)
def zFU (s:Nat→Nat):Nat→(Nat→Nat)
 | 0=>s
 | n+1=>if hasB s (97+n) || hasB s (65+n) then addS (addS (zFU s n) (97+n)) (65+n) else zFU s n
def zDK (s:Nat→Nat):Nat→Nat:=zFU s 26
theorem zEq {s:Nat→Nat} (hs:zAs s):∀ n,zAs (zFU s n)
 | 0=>hs
 | n+1=>by
  unfold zFU;split
  ·exact zFr (zFr (zEq hs n) _) _
  ·exact zEq hs n
abbrev zAU:=Bool × Bool × Bool
def zF5 (f:zAU):Array Value:=#[.bool f.1,.bool f.2.1,.bool f.2.2]
abbrev zDX (f:zAU):Value:=.agg (zF5 f)
def zDV (k:Int):Tree:=.mk {kind:=k} []
def rowT (k:Int) (ts:List Tree):Tree:=match ts with
 | []=>zDV 1
 | [t]=>t
 | _=>.mk {kind:=k} ts
def zHf (f:zAU) (w:WordD):zAU:=((f.1 || w.on.1)&&!w.off.1,(f.2.1 || w.on.2.1)&&!w.off.2.1,(f.2.2 || w.on.2.2)&&!w.off.2.2)
def setT (s:Nat→Nat):Tree:=if eqS s zAF then zDV 2 else .mk {kind:=3,set:=s} []
def zFX (f:zAU) (a b:Int):Tree:=zDV (if f.2.1 then b else a)
def zCy (w:WordD) (f:zAU):Tree :=
 if w.kind=1 then
  let s:=if f.1 then zDK w.set else w.set
  setT (if w.neg then notS s else s)
 else if w.kind=2 then (if f.2.2 then setT (zAm 0 256) else setT (notS (ofS [10])))
 else if w.kind=3 then zFX f 8 10
 else if w.kind=4 then zFX f 9 11
 else zDV w.spot
def zBY (w:WordD):Bool:=w.kind == 6 || w.kind == 7
def repT (w:WordD) (t:Tree):Tree:=.mk {kind:=6,lo:=w.lo,hi:=w.hi,lazy:=w.lazy} [t]
def zFO (k:Nat) (t:Tree):Tree:=.mk {kind:=7,group:=k} [t]
def zBy:Nat→zAU→List WordD→Nat→List Tree→List Tree→Option (Tree × List WordD × Nat)
 | 0,_,_,_,_,_=>none
 | _+1,_,[],g,all,items=>some (rowT 5 (all++[rowT 4 items]),[],g)
 | n+1,f,w::r,g,all,items =>
  if w.kind=9 then some (rowT 5 (all++[rowT 4 items]),w::r,g)
  else if w.kind=8 then zBy n (zHf f w) r g all items
  else if w.kind=10 then zBy n f r g (all++[rowT 4 items]) []
  else if w.kind=11 then
   match items.getLast? with
   | none=>none
   | some last=>zBy n f r g all (items.dropLast++[repT w last])
  else if w.kind=7 then
   match zBy n (zHf f w) r g [] [] with
   | some (t,_::r',g')=>zBy n f r' g' all (items++[t])
   | _=>none
  else if w.kind=6 then
   match zBy n f r (g+1) [] [] with
   | some (t,_::r',g')=>zBy n f r' g' all (items++[zFO (g+1) t])
   | _=>none
  else zBy n f r g all (items++[zCy w f])
def zBF:Bool→List Nat→List WordD→Option Nat
 | _,open_,[]=>open_.getLast?
 | bare,open_,w::r =>
  if w.kind=11∧bare=true∨w.kind=9∧open_=[] then some w.place
  else
   let o:=if zBY w then open_++[w.place] else open_
   zBF (zBY w || w.kind == 8 || w.kind == 10 || w.kind == 11) (if w.kind=9 then o.dropLast else o) r
def zGC (l:List WordD):Option Nat:=zBF true [] l
end
section
open Go.RowKit Go.Shelf
theorem zAJ:oneB Tryd.prog 3=true:=by kernel_rfl
theorem zAZ:oneB Tryd.prog 4=true:=by kernel_rfl
theorem zAh:oneB Tryd.prog 9=true:=by kernel_rfl
theorem zAe:oneB Tryd.prog 25=true:=by kernel_rfl
theorem zAf:rowB Tryd.prog 28 4=true:=by kernel_rfl
theorem zSet:zB0 Tryd.prog 28=setC zAF:=by kernel_rfl
theorem zAN:oneB Tryd.prog 54=true:=by kernel_rfl
theorem zB1:rowB Tryd.prog 65 17=true:=by kernel_rfl
theorem zOH:zB0 Tryd.prog 65=zAg {kind:=0,place:=0}:=by kernel_rfl
theorem zCQ:oneB Tryd.prog 80=true:=by kernel_rfl
theorem zAR:oneB Tryd.prog 47=true:=by kernel_rfl
theorem zAM:oneB Tryd.prog 32=true:=by kernel_rfl
theorem zAV:oneB Tryd.prog 29=true:=by kernel_rfl
theorem zAW:rowB Tryd.prog 31 10=true:=by kernel_rfl
theorem zBC:rowB Tryd.prog 23 3=true:=by kernel_rfl
theorem zN8:zB0 Tryd.prog 31=zAQ {kind:=0} nilS:=by kernel_rfl
theorem zN3:zB0 Tryd.prog 23=zF5 (false,false,false):=by kernel_rfl
theorem zOS:zB0 Tryd.prog 47=#[.slice none 0 0]:=by kernel_rfl
theorem zInt:zB0 Tryd.prog 3=#[.int .i64 0]:=by kernel_rfl
theorem zOC:zB0 Tryd.prog 32=#[.int .i64 0]:=by kernel_rfl
theorem zPtr:zB0 Tryd.prog 80=#[.pointer none]:=by kernel_rfl
theorem nrm:zB0 Tryd.prog 28=setC zAF∧zB0 Tryd.prog 65=zAg {kind:=0,place:=0}∧zB0 Tryd.prog 31=zAQ {kind:=0} nilS∧zB0 Tryd.prog 23=zF5 (false,false,false)∧zB0 Tryd.prog 47=#[.slice none 0 0]∧zB0 Tryd.prog 3=#[.int .i64 0]∧zB0 Tryd.prog 32=#[.int .i64 0]∧zB0 Tryd.prog 80=#[.pointer none]:=⟨zSet,zOH,zN8,zN3,zOS,zInt,zOC,zPtr⟩
theorem nrl {α:Type}:(∀ (a:α) (l r:List α),a::l++r=a::(l++r))∧(∀ l:List α,[]++l=l)∧(∀ l:List α,l++[]=l)∧(∀ (a b:α) (l:List α),(a::l).set 0 b=b::l)∧(∀ (a b:α) (l:List α) (n:Nat),(a::l).set (n+1) b=a::l.set n b)∧∀ (a:α) (l:List α) (n:Nat),l.toArray.setIfInBounds n a=(l.set n a).toArray :=
 ⟨fun _ _ _=>rfl,fun _=>rfl,List.append_nil,fun _ _ _=>rfl,fun _ _ _ _=>rfl,fun _ _ _=>List.setIfInBounds_toArray ..⟩
theorem nr:(zB0 Tryd.prog 28=setC zAF∧zB0 Tryd.prog 65=zAg {kind:=0,place:=0}∧zB0 Tryd.prog 31=zAQ {kind:=0} nilS∧zB0 Tryd.prog 23=zF5 (false,false,false)∧zB0 Tryd.prog 47=#[.slice none 0 0]∧zB0 Tryd.prog 3=#[.int .i64 0]∧zB0 Tryd.prog 32=#[.int .i64 0]∧zB0 Tryd.prog 80=#[.pointer none])∧(∀ {α:Type},(∀ (a:α) (l r:List α),a::l++r=a::(l++r))∧(∀ l:List α,[]++l=l)∧(∀ l:List α,l++[]=l)∧(∀ (a b:α) (l:List α),(a::l).set 0 b=b::l)∧(∀ (a b:α) (l:List α) (n:Nat),(a::l).set (n+1) b=a::l.set n b)∧∀ (a:α) (l:List α) (n:Nat),l.toArray.setIfInBounds n a=(l.set n a).toArray)∧(∀ (k:IntKind) (n:Int),(Value.int k n).cells=#[Value.int k n])∧(∀ (b:Bool),(Value.bool b).cells=#[Value.bool b])∧(∀ (s:ByteArray),(Value.string s).cells=#[Value.string s])∧(∀ (p:Option Addr),(Value.pointer p).cells=#[Value.pointer p])∧(∀ (p:Option Addr) (n c:Nat),(Value.slice p n c).cells=#[Value.slice p n c])∧(∀ (r:Option Nat),(Value.map r).cells=#[Value.map r])∧∀ cs:Array Value,(Value.agg cs).cells=cs :=
 ⟨nrm,nrl,fun _ _=>rfl,fun _=>rfl,fun _=>rfl,fun _=>rfl,fun _ _ _=>rfl,fun _=>rfl,fun _=>rfl⟩
theorem ch {M:Nat→Prop} {P:Program} {f:FuncId} {args:Array Value} {w w0:World} {l:List Res} {e0:Ending} {R:Ending→World→Prop} (c:Calls P f args w fun e w'=>e=e0∧Below w.heap.size w w') (H:HoldG M w0 w l)
  (k:∀ w',HoldG M w0 w' l→R e0 w'):Calls P f args w R:=c.mono fun _ w' h=>h.1 ▸ k w' (H.call h.2)
section
variable {M:Nat→Prop} {ops:Array Oper} {dst:Option Tmp} {ty:TypeId} {pos:String} {aft:Array Edge} {grd:Option (Nat × Bool)} {rest:List Oper} {a:Act} {w w0:World} {l:List Res} {Q:Exit→Act→World→Prop}
theorem gT {T:TypeId} {x y:Operand} (h:wpList Tryd.prog ops Q ((⟨dst,.store T x y,ty,pos,aft,grd⟩:Oper)::rest) a w):wpList Tryd.prog ops Q ((⟨dst,.store T x y,ty,pos,aft,grd⟩:Oper)::rest) a w:=h
theorem gL {T:TypeId} {x:Operand} (h:wpList Tryd.prog ops Q ((⟨dst,.load T x,ty,pos,aft,grd⟩:Oper)::rest) a w):wpList Tryd.prog ops Q ((⟨dst,.load T x,ty,pos,aft,grd⟩:Oper)::rest) a w:=h
theorem gA {T:TypeId} (h:wpList Tryd.prog ops Q ((⟨dst,.alloc T,ty,pos,aft,grd⟩:Oper)::rest) a w):wpList Tryd.prog ops Q ((⟨dst,.alloc T,ty,pos,aft,grd⟩:Oper)::rest) a w:=h
theorem gZ {T:TypeId} {parts:Array (Nat × Operand)} (h:wpList Tryd.prog ops Q ((⟨dst,.build T parts,ty,pos,aft,grd⟩:Oper)::rest) a w):wpList Tryd.prog ops Q ((⟨dst,.build T parts,ty,pos,aft,grd⟩:Oper)::rest) a w:=h
theorem gI {T:TypeId} {x y:Operand} (h:wpList Tryd.prog ops Q ((⟨dst,.index T x y,ty,pos,aft,grd⟩:Oper)::rest) a w):wpList Tryd.prog ops Q ((⟨dst,.index T x y,ty,pos,aft,grd⟩:Oper)::rest) a w:=h
theorem gU {T:TypeId} {x y:Operand} (h:wpList Tryd.prog ops Q ((⟨dst,.slice T x none (some y) none,ty,pos,aft,grd⟩:Oper)::rest) a w):wpList Tryd.prog ops Q ((⟨dst,.slice T x none (some y) none,ty,pos,aft,grd⟩:Oper)::rest) a w:=h
theorem gE {T U:TypeId} {x y:Operand} (h:wpList Tryd.prog ops Q ((⟨dst,.binOp .eql T x y U,ty,pos,aft,grd⟩:Oper)::rest) a w):wpList Tryd.prog ops Q ((⟨dst,.binOp .eql T x y U,ty,pos,aft,grd⟩:Oper)::rest) a w:=h
theorem kgX (k:Tmp) {T:TypeId} {x:Operand} (h:wpList Tryd.prog ops Q ((⟨some k,.box T x,ty,pos,aft,grd⟩:Oper)::rest) a w):wpList Tryd.prog ops Q ((⟨some k,.box T x,ty,pos,aft,grd⟩:Oper)::rest) a w:=h
theorem kgA (k:Tmp) {T:TypeId} (h:wpList Tryd.prog ops Q ((⟨some k,.alloc T,ty,pos,aft,grd⟩:Oper)::rest) a w):wpList Tryd.prog ops Q ((⟨some k,.alloc T,ty,pos,aft,grd⟩:Oper)::rest) a w:=h
theorem aS (H:HoldG M w0 w l) {T:TypeId} {x y:Operand} {i b:Nat} {cs:Array Value} {U:TypeId} {s:Nat→Nat} (h:∀ w',HoldG M w0 w' (l.set i (.blk b (setC s) U))→wpList Tryd.prog ops Q rest (a.put dst undef) w') (hg:Region.wanted (⟨dst,.store T x y,ty,pos,aft,grd⟩:Oper) (yielded ops a.tmps)=true:=by first|rfl|exact zAn rfl (zAS rfl (by first|rfl|(simp only[pe];rfl)))) (hx:a.eval x=.pointer (some ⟨b,0,none⟩):=by exact rfl) (hy:a.eval y=setV s:=by (try simp only[pe]);with_reducible rfl) (hi:At l i (.blk b cs U):=by repeat (first|(with_reducible exact At.zero)|apply At.succ)) (hT:zCx Tryd.prog T 4=true:=by with_reducible exact zA3 zAf) (hn:cs.size=4:=by rfl):wpList Tryd.prog ops Q ((⟨dst,.store T x y,ty,pos,aft,grd⟩:Oper)::rest) a w :=
 zKB hg T x y rfl hx hy H hi hT hn h
theorem aW (H:HoldG M w0 w l) {T:TypeId} {x y:Operand} {i b:Nat} {d:WordD} {U:TypeId} {s:Nat→Nat} (h:∀ w',HoldG M w0 w' (l.set i (.blk b (zAg {d with set:=s}) U))→wpList Tryd.prog ops Q rest (a.put dst undef) w') (hg:Region.wanted (⟨dst,.store T x y,ty,pos,aft,grd⟩:Oper) (yielded ops a.tmps)=true:=by first|rfl|exact zAn rfl (zAS rfl (by first|rfl|(simp only[pe];rfl)))) (hx:a.eval x=.pointer (some ⟨b,2,none⟩):=by exact rfl) (hy:a.eval y=setV s:=by (try simp only[pe]);with_reducible rfl) (hi:At l i (.blk b (zAg d) U):=by repeat (first|(with_reducible exact At.zero)|apply At.succ)) (hT:zCx Tryd.prog T 4=true:=by with_reducible exact zA3 zAf):wpList Tryd.prog ops Q ((⟨dst,.store T x y,ty,pos,aft,grd⟩:Oper)::rest) a w :=
 zDC hg T x y rfl hx (vs:=setC s) hy H hi hT rfl rfl (show 2+4≤17 by omega) h
theorem aV (H:HoldG M w0 w l) {T:TypeId} {x:Operand} {i b:Nat} {d:WordD} {U:TypeId} (h:wpList Tryd.prog ops Q rest (a.put dst (setV d.set)) w) (hg:Region.wanted (⟨dst,.load T x,ty,pos,aft,grd⟩:Oper) (yielded ops a.tmps)=true:=by first|rfl|exact zAn rfl (zAS rfl (by first|rfl|(simp only[pe];rfl)))) (hx:a.eval x=.pointer (some ⟨b,2,none⟩):=by exact rfl) (hi:At l i (.blk b (zAg d) U):=by repeat (first|(with_reducible exact At.zero)|apply At.succ)) (hT:rowB Tryd.prog T 4=true:=by with_reducible exact zAf):wpList Tryd.prog ops Q ((⟨dst,.load T x,ty,pos,aft,grd⟩:Oper)::rest) a w :=
 zDb hg T x rfl hx H hi (setC d.set) hT rfl h
theorem aZ  (h:wpList Tryd.prog ops Q rest (a.put dst (setV zAF)) w) (hg:Region.wanted (⟨dst,.build 28 #[],ty,pos,aft,grd⟩:Oper) (yielded ops a.tmps)=true:=by first|rfl|exact zAn rfl (zAS rfl (by first|rfl|(simp only[pe];rfl)))):wpList Tryd.prog ops Q ((⟨dst,.build 28 #[],ty,pos,aft,grd⟩:Oper)::rest) a w :=
 zL7 hg rfl h
theorem aL (H:HoldG M w0 w l) {T:TypeId} {x:Operand} {i b:Nat} {s:Nat→Nat} {U:TypeId} (h:wpList Tryd.prog ops Q rest (a.put dst (setV s)) w) (hg:Region.wanted (⟨dst,.load T x,ty,pos,aft,grd⟩:Oper) (yielded ops a.tmps)=true:=by first|rfl|exact zAn rfl (zAS rfl (by first|rfl|(simp only[pe];rfl)))) (hx:a.eval x=.pointer (some ⟨b,0,none⟩):=by exact rfl) (hi:At l i (.blk b (setC s) U):=by repeat (first|(with_reducible exact At.zero)|apply At.succ)) (hT:rowB Tryd.prog T 4=true:=by with_reducible exact zAf):wpList Tryd.prog ops Q ((⟨dst,.load T x,ty,pos,aft,grd⟩:Oper)::rest) a w :=
 zK4 hg T x rfl hx H hi hT h
theorem bA (H:HoldG M w0 w l) {T:TypeId} (h:∀ b w',HoldG M w0 w' (l++[.blk b (zB0 Tryd.prog T) T])→wpList Tryd.prog ops Q rest (a.put dst (.pointer (some ⟨b,0,none⟩))) w') (hg:Region.wanted (⟨dst,.alloc T,ty,pos,aft,grd⟩:Oper) (yielded ops a.tmps)=true:=by first|rfl|exact zAn rfl (zAS rfl (by first|rfl|(simp only[pe];rfl)))) (hi:((Tryd.prog.info? T).bind (·.zero)).isSome=true:=by kernel_rfl):wpList Tryd.prog ops Q ((⟨dst,.alloc T,ty,pos,aft,grd⟩:Oper)::rest) a w :=
 zGO hg T rfl H hi h
theorem kS (k:Tmp) (H:HoldG M w0 w l) {T:TypeId} {x:Operand} {s:Nat→Nat} (h:∀ b w',HoldG M w0 w' (l++[.blk b (setC s) T])→wpList Tryd.prog ops Q rest (a.put (some k) (.pointer (some ⟨b,0,none⟩))) w') (hg:Region.wanted (⟨some k,.box T x,ty,pos,aft,grd⟩:Oper) (yielded ops a.tmps)=true:=by first|rfl|exact zAn rfl (zAS rfl (by first|rfl|(simp only[pe];rfl)))) (hx:a.eval x=setV s:=by (try simp only[pe]);with_reducible rfl):wpList Tryd.prog ops Q ((⟨some k,.box T x,ty,pos,aft,grd⟩:Oper)::rest) a w :=
 zMn hg T x rfl hx H h
theorem kA (k:Tmp) (H:HoldG M w0 w l) {T:TypeId} (h:∀ b w',HoldG M w0 w' (l++[.blk b (zB0 Tryd.prog T) T])→wpList Tryd.prog ops Q rest (a.put (some k) (.pointer (some ⟨b,0,none⟩))) w') (hg:Region.wanted (⟨some k,.alloc T,ty,pos,aft,grd⟩:Oper) (yielded ops a.tmps)=true:=by first|rfl|exact zAn rfl (zAS rfl (by first|rfl|(simp only[pe];rfl)))) (hi:((Tryd.prog.info? T).bind (·.zero)).isSome=true:=by kernel_rfl):wpList Tryd.prog ops Q ((⟨some k,.alloc T,ty,pos,aft,grd⟩:Oper)::rest) a w :=
 zGO hg T rfl H hi h
theorem kB (k:Tmp) (H:HoldG M w0 w l) {T:TypeId} {x:Operand} {v:Value} (h:∀ b w',HoldG M w0 w' (l++[.blk b v.cells T])→wpList Tryd.prog ops Q rest (a.put (some k) (.pointer (some ⟨b,0,none⟩))) w') (hg:Region.wanted (⟨some k,.box T x,ty,pos,aft,grd⟩:Oper) (yielded ops a.tmps)=true:=by first|rfl|exact zAn rfl (zAS rfl (by first|rfl|(simp only[pe];rfl)))) (hx:a.eval x=v:=by first|(simp only[pe];done)|(simp only[pe];rfl)):wpList Tryd.prog ops Q ((⟨some k,.box T x,ty,pos,aft,grd⟩:Oper)::rest) a w :=
 zLb hg T x rfl hx H h
theorem aO (H:HoldG M w0 w l) {T:TypeId} {x y:Operand} {i b:Nat} {cs:Array Value} {U:TypeId} {k:Nat} {v:Value} (h:∀ w',HoldG M w0 w' (l.set i (.blk b (cs.setIfInBounds k v) U))→wpList Tryd.prog ops Q rest (a.put dst undef) w') (hg:Region.wanted (⟨dst,.store T x y,ty,pos,aft,grd⟩:Oper) (yielded ops a.tmps)=true:=by first|rfl|exact zAn rfl (zAS rfl (by first|rfl|(simp only[pe];rfl)))) (hx:a.eval x=.pointer (some ⟨b,k,none⟩):=by exact rfl) (hy:a.eval y=v:=by first|(simp only[pe];done)|(simp only[pe];rfl)) (hi:At l i (.blk b cs U):=by repeat (first|(with_reducible exact At.zero)|apply At.succ)) (h1:v.oneCell'=true:=by rfl) (hk:k<cs.size:=by first|(simp;done)|(simp[zAg];done)|(simp[zAQ];done)|(simp[zF5];done)) (hT:zCx Tryd.prog T 1=true:=by first|(with_reducible exact zAC zAR)|(with_reducible exact zAC zAM)|(with_reducible exact zAC zCQ)|(with_reducible exact zAC zAN)|(with_reducible exact zAC zAJ)|(with_reducible exact zAC one_u8)|(with_reducible exact zAC zAZ)|(with_reducible exact zAC zAh)|(with_reducible exact zAC zAe)|(with_reducible exact zAC one_u64)|(with_reducible exact zAC zAV)|(with_reducible exact zAC one_bytes)):wpList Tryd.prog ops Q ((⟨dst,.store T x y,ty,pos,aft,grd⟩:Oper)::rest) a w :=
 zAK hg T x y rfl hx hy H hi h1 hk hT h
theorem aT (H:HoldG M w0 w l) {T:TypeId} {x y:Operand} {i b:Nat} {cs:Array Value} {U:TypeId} {n:Nat} {vs:Array Value} (h:∀ w',HoldG M w0 w' (l.set i (.blk b vs U))→wpList Tryd.prog ops Q rest (a.put dst undef) w') (hg:Region.wanted (⟨dst,.store T x y,ty,pos,aft,grd⟩:Oper) (yielded ops a.tmps)=true:=by first|rfl|exact zAn rfl (zAS rfl (by first|rfl|(simp only[pe];rfl)))) (hx:a.eval x=.pointer (some ⟨b,0,none⟩):=by exact rfl) (hy:a.eval y=.agg vs:=by first|(simp only[pe];done)|(simp only[pe];rfl)) (hi:At l i (.blk b cs U):=by repeat (first|(with_reducible exact At.zero)|apply At.succ)) (hT:zCx Tryd.prog T n=true:=by first|(with_reducible exact zA3 zB1)|(with_reducible exact zA3 zAf)|(with_reducible exact zA3 zAW)|(with_reducible exact zA3 zBC)) (hv:vs.size=n:=by rfl) (hn:cs.size=n:=by rfl) (h1:vs.toList.all (·.oneCell')=true:=by rfl):wpList Tryd.prog ops Q ((⟨dst,.store T x y,ty,pos,aft,grd⟩:Oper)::rest) a w :=
 zHu hg T x y rfl hx hy H hi hT hv hn h1 h
theorem aN (H:HoldG M w0 w l) {T:TypeId} {x y:Operand} {i b:Nat} {cs:Array Value} {U:TypeId} {n k:Nat} {vs:Array Value} (h:∀ w',HoldG M w0 w' (l.set i (.blk b (zBE cs k vs.toList) U))→wpList Tryd.prog ops Q rest (a.put dst undef) w') (hg:Region.wanted (⟨dst,.store T x y,ty,pos,aft,grd⟩:Oper) (yielded ops a.tmps)=true:=by first|rfl|exact zAn rfl (zAS rfl (by first|rfl|(simp only[pe];rfl)))) (hx:a.eval x=.pointer (some ⟨b,k,none⟩):=by exact rfl) (hy:a.eval y=.agg vs:=by first|(simp only[pe];done)|(simp only[pe];rfl)) (hi:At l i (.blk b cs U):=by repeat (first|(with_reducible exact At.zero)|apply At.succ)) (hT:zCx Tryd.prog T n=true:=by first|(with_reducible exact zA3 zB1)|(with_reducible exact zA3 zAf)|(with_reducible exact zA3 zAW)|(with_reducible exact zA3 zBC)) (hv:vs.size=n:=by rfl) (h1:vs.toList.all (·.oneCell')=true:=by rfl) (hk:k+n≤cs.size:=by first|(simp;done)|(simp[zAg];done)|(simp[zAQ];done)|(simp[zF5];done)):wpList Tryd.prog ops Q ((⟨dst,.store T x y,ty,pos,aft,grd⟩:Oper)::rest) a w :=
 zDC hg T x y rfl hx hy H hi hT hv h1 hk h
theorem aG (H:HoldG M w0 w l) {T:TypeId} {x:Operand} {i b:Nat} {cs:Array Value} {U:TypeId} {k:Nat} {v:Value} (h:wpList Tryd.prog ops Q rest (a.put dst v) w) (hg:Region.wanted (⟨dst,.load T x,ty,pos,aft,grd⟩:Oper) (yielded ops a.tmps)=true:=by first|rfl|exact zAn rfl (zAS rfl (by first|rfl|(simp only[pe];rfl)))) (hx:a.eval x=.pointer (some ⟨b,k,none⟩):=by exact rfl) (hi:At l i (.blk b cs U):=by repeat (first|(with_reducible exact At.zero)|apply At.succ)) (hT:oneB Tryd.prog T=true:=by first|(with_reducible exact zAR)|(with_reducible exact zAM)|(with_reducible exact zCQ)|(with_reducible exact zAN)|(with_reducible exact zAJ)|(with_reducible exact one_u8)|(with_reducible exact zAZ)|(with_reducible exact zAh)|(with_reducible exact zAe)|(with_reducible exact one_u64)|(with_reducible exact zAV)|(with_reducible exact one_bytes)) (hv:cs[k]?=some v:=by first|(with_reducible exact wg0 _)|(with_reducible exact wg1 _)|(with_reducible exact wg2 _)|(with_reducible exact wg3 _)|(with_reducible exact wg4 _)|(with_reducible exact wg5 _)|(with_reducible exact wg6 _)|(with_reducible exact wg7 _)|(with_reducible exact wg8 _)|(with_reducible exact wg9 _)|(with_reducible exact wg10 _)|(with_reducible exact wg11 _)|(with_reducible exact wg12 _)|(with_reducible exact wg13 _)|(with_reducible exact wg14 _)|(with_reducible exact wg15 _)|(with_reducible exact wg16 _)|(with_reducible exact fg0 _)|(with_reducible exact fg1 _)|(with_reducible exact fg2 _)|(with_reducible exact ng0 _ _)|(with_reducible exact ng1 _ _)|(with_reducible exact ng2 _ _)|(with_reducible exact ng3 _ _)|(with_reducible exact ng4 _ _)|(with_reducible exact ng5 _ _)|(with_reducible exact ng6 _ _)|(with_reducible exact ng7 _ _)|(with_reducible exact ng8 _ _)|(with_reducible exact ng9 _ _)|rfl):wpList Tryd.prog ops Q ((⟨dst,.load T x,ty,pos,aft,grd⟩:Oper)::rest) a w :=
 zAX hg T x rfl hx H hi hT hv h
theorem aD (H:HoldG M w0 w l) {T:TypeId} {x:Operand} {i b:Nat} {cs:Array Value} {U:TypeId} {n:Nat} (h:wpList Tryd.prog ops Q rest (a.put dst (.agg cs)) w) (hg:Region.wanted (⟨dst,.load T x,ty,pos,aft,grd⟩:Oper) (yielded ops a.tmps)=true:=by first|rfl|exact zAn rfl (zAS rfl (by first|rfl|(simp only[pe];rfl)))) (hx:a.eval x=.pointer (some ⟨b,0,none⟩):=by exact rfl) (hi:At l i (.blk b cs U):=by repeat (first|(with_reducible exact At.zero)|apply At.succ)) (hT:rowB Tryd.prog T n=true:=by first|(with_reducible exact zB1)|(with_reducible exact zAf)|(with_reducible exact zAW)|(with_reducible exact zBC)) (hn:cs.size=n:=by rfl):wpList Tryd.prog ops Q ((⟨dst,.load T x,ty,pos,aft,grd⟩:Oper)::rest) a w :=
 zJN hg T x rfl hx H hi hT hn h
theorem aI {T:TypeId} {x lo:Operand} {L:Str} {y:Int} {i:Nat} (h:wpList Tryd.prog ops Q rest (a.put dst (.int .u8 (byt L i))) w) (hg:Region.wanted (⟨dst,.index T x lo,ty,pos,aft,grd⟩:Oper) (yielded ops a.tmps)=true:=by first|rfl|exact zAn rfl (zAS rfl (by first|rfl|(simp only[pe];rfl)))) (hT:Tryd.prog.underlying T=some .string:=by exact Tryd.underlying9) (hx:a.eval x=.string ⟨L.toArray⟩:=by exact rfl) (hl:a.eval lo=.int .i64 y:=by first|(simp only[pe];done)|(simp only[pe];rfl)) (hy:y=(i:Int):=by first|with_reducible exact hNC|with_reducible exact nc1 _|with_reducible exact nc2 _|with_reducible exact nc3 _|with_reducible exact nca _ _|with_reducible exact nc0 _|with_reducible exact ncl0|with_reducible exact ncl1|rfl) (h1:i<L.length:=by first|omega|(simp only[List.length_cons,List.length_nil];omega)):wpList Tryd.prog ops Q ((⟨dst,.index T x lo,ty,pos,aft,grd⟩:Oper)::rest) a w :=
 zKO hg T x lo rfl hT hx hl hy h1 h
theorem aU {T:TypeId} {x hi:Operand} {L:Str} {y:Int} {i:Nat} (h:wpList Tryd.prog ops Q rest (a.put dst (.string ⟨(L.take i).toArray⟩)) w) (hg:Region.wanted (⟨dst,.slice T x none (some hi) none,ty,pos,aft,grd⟩:Oper) (yielded ops a.tmps)=true:=by first|rfl|exact zAn rfl (zAS rfl (by first|rfl|(simp only[pe];rfl)))) (hT:Tryd.prog.underlying T=some .string:=by exact Tryd.underlying9) (hx:a.eval x=.string ⟨L.toArray⟩:=by exact rfl) (hl:a.eval hi=.int .i64 y:=by first|(simp only[pe];done)|(simp only[pe];rfl)) (hy:y=(i:Int):=by first|with_reducible exact hNC|with_reducible exact nc1 _|with_reducible exact nc2 _|with_reducible exact nc3 _|with_reducible exact nca _ _|with_reducible exact nc0 _|with_reducible exact ncl0|with_reducible exact ncl1|rfl) (h1:i≤L.length:=by first|omega|(simp only[List.length_cons,List.length_nil];omega)):wpList Tryd.prog ops Q ((⟨dst,.slice T x none (some hi) none,ty,pos,aft,grd⟩:Oper)::rest) a w :=
 zOM hg T x hi rfl hT hx hl hy h1 h
theorem aE {T:TypeId} {x y:Operand} {U:TypeId} {L L':Str} (h:wpList Tryd.prog ops Q rest (a.put dst (.bool (L == L'))) w) (hg:Region.wanted (⟨dst,.binOp .eql T x y U,ty,pos,aft,grd⟩:Oper) (yielded ops a.tmps)=true:=by first|rfl|exact zAn rfl (zAS rfl (by first|rfl|(simp only[pe];rfl)))) (hx:a.eval x=.string ⟨L.toArray⟩:=by exact rfl) (hy:a.eval y=.string ⟨L'.toArray⟩:=by exact rfl) (hq:∀ w:World,(eqGuard .eql T x y (.string ⟨L.toArray⟩) (.string ⟨L'.toArray⟩)).run Tryd.prog w=.ok () w:=by exact fun _=>rfl):wpList Tryd.prog ops Q ((⟨dst,.binOp .eql T x y U,ty,pos,aft,grd⟩:Oper)::rest) a w :=
 zNB hg T x y U rfl hx hy hq h
end
section
variable {M:Nat→Prop} {a:Act} {w w0:World} {l:List Res} {fn:Func} {R:Ending→World→Prop} {p q r:Tmp} {T:TypeId} {b i n:Nat} {cs:Array Value} {U:TypeId} {s:Nat→Nat} {v u:Value}
theorem xc (hres:fn.results=#[.cell p T]) (H:HoldG M w0 w l) (h:R (.returned (.agg cs)) w) (hp:a.tmps.getD p undef=.pointer (some ⟨b,0,none⟩):=by exact rfl) (hi:At l i (.blk b cs U):=by repeat (first|(with_reducible exact At.zero)|apply At.succ)) (hT:rowB Tryd.prog T n=true:=by first|(with_reducible exact zB1)|(with_reducible exact zAf)|(with_reducible exact zAW)|(with_reducible exact zBC)) (hn:cs.size=n:=by rfl) (hd:a.defers=[]:=by exact rfl):bodyPost Tryd.prog fn R .ret a w:=zOK hres hp H hi hT hn hd h
theorem xct (hres:fn.results=#[.cell p T,.tmp q]) (H:HoldG M w0 w l) (h:R (.returned (.tuple #[.agg cs,v])) w) (hp:a.tmps.getD p undef=.pointer (some ⟨b,0,none⟩):=by exact rfl) (hq:a.tmps.getD q undef=v:=by first|rfl|(simp only[pl];rfl)) (hi:At l i (.blk b cs U):=by repeat (first|(with_reducible exact At.zero)|apply At.succ)) (hT:rowB Tryd.prog T n=true:=by first|(with_reducible exact zB1)|(with_reducible exact zAf)|(with_reducible exact zAW)|(with_reducible exact zBC)) (hn:cs.size=n:=by rfl) (hd:a.defers=[]:=by exact rfl):bodyPost Tryd.prog fn R .ret a w:=zMw hres hp hq H hi hT hn hd h
theorem xctt (hres:fn.results=#[.cell p T,.tmp q,.tmp r]) (H:HoldG M w0 w l) (h:R (.returned (.tuple #[.agg cs,v,u])) w) (hp:a.tmps.getD p undef=.pointer (some ⟨b,0,none⟩):=by exact rfl) (hq:a.tmps.getD q undef=v:=by first|rfl|(simp only[pl];rfl)) (hr:a.tmps.getD r undef=u:=by first|rfl|(simp only[pl];rfl)) (hi:At l i (.blk b cs U):=by repeat (first|(with_reducible exact At.zero)|apply At.succ)) (hT:rowB Tryd.prog T n=true:=by first|(with_reducible exact zB1)|(with_reducible exact zAf)|(with_reducible exact zAW)|(with_reducible exact zBC)) (hn:cs.size=n:=by rfl) (hd:a.defers=[]:=by exact rfl):bodyPost Tryd.prog fn R .ret a w:=zNs hres hp hq hr H hi hT hn hd h
theorem xcS (hres:fn.results=#[.cell p T]) (H:HoldG M w0 w l) (h:R (.returned (setV s)) w) (hp:a.tmps.getD p undef=.pointer (some ⟨b,0,none⟩):=by exact rfl) (hi:At l i (.blk b (setC s) U):=by repeat (first|(with_reducible exact At.zero)|apply At.succ)) (hT:rowB Tryd.prog T 4=true:=by with_reducible exact zAf) (hd:a.defers=[]:=by exact rfl):bodyPost Tryd.prog fn R .ret a w:=zOF hres hp H hi hT hd h
theorem xctS (hres:fn.results=#[.cell p T,.tmp q]) (H:HoldG M w0 w l) (h:R (.returned (.tuple #[setV s,v])) w) (hp:a.tmps.getD p undef=.pointer (some ⟨b,0,none⟩):=by exact rfl) (hq:a.tmps.getD q undef=v:=by first|rfl|(simp only[pl];rfl)) (hi:At l i (.blk b (setC s) U):=by repeat (first|(with_reducible exact At.zero)|apply At.succ)) (hT:rowB Tryd.prog T 4=true:=by with_reducible exact zAf) (hd:a.defers=[]:=by exact rfl):bodyPost Tryd.prog fn R .ret a w:=zNQ hres hp hq H hi hT hd h
end
theorem ca {α:Type}:(∀ (a:α) (l r:List α),a::l++r=a::(l++r))∧∀ l:List α,[]++l=l:=⟨fun _ _ _=>rfl,fun _=>rfl⟩
theorem sc {α:Type}:(∀ (a b:α) (l:List α) (n:Nat),(a::l).set (n+1) b=a::l.set n b)∧∀ (a b:α) (l:List α),(a::l).set 0 b=b::l:=⟨fun _ _ _ _=>rfl,fun _ _ _=>rfl⟩
theorem ml {α β:Type} {f:α→β}:(∀ l:List α,l.toArray.map f=(l.map f).toArray)∧(∀ (a:α) (l:List α),(a::l).map f=f a::l.map f)∧([]:List α).map f=[]:=⟨fun _=>List.map_toArray ..,fun _ _=>rfl,rfl⟩
section
variable {ops:Array Oper} {dst:Option Tmp} {ty:TypeId} {pos:String} {aft:Array Edge} {grd:Option (Nat × Bool)} {rest:List Oper} {a:Act} {w:World} {Q:Exit→Act→World→Prop}
theorem gBS {x0:TypeId} {x1:Nat} {x2:Array (Nat × Operand)} (h:wpList Tryd.prog ops Q ((⟨dst,.buildSlice x0 x1 x2,ty,pos,aft,grd⟩:Oper)::rest) a w):wpList Tryd.prog ops Q ((⟨dst,.buildSlice x0 x1 x2,ty,pos,aft,grd⟩:Oper)::rest) a w:=h
theorem gIA {x0:TypeId} {x1 x2:Operand} (h:wpList Tryd.prog ops Q ((⟨dst,.indexAddr x0 x1 x2,ty,pos,aft,grd⟩:Oper)::rest) a w):wpList Tryd.prog ops Q ((⟨dst,.indexAddr x0 x1 x2,ty,pos,aft,grd⟩:Oper)::rest) a w:=h
theorem gCV {x0 x1:TypeId} {x2:Operand} (h:wpList Tryd.prog ops Q ((⟨dst,.convert x0 x1 x2,ty,pos,aft,grd⟩:Oper)::rest) a w):wpList Tryd.prog ops Q ((⟨dst,.convert x0 x1 x2,ty,pos,aft,grd⟩:Oper)::rest) a w:=h
theorem gSl {x0:TypeId} {x1:Operand} {x2 x3 x4:Option Operand} (h:wpList Tryd.prog ops Q ((⟨dst,.slice x0 x1 x2 x3 x4,ty,pos,aft,grd⟩:Oper)::rest) a w):wpList Tryd.prog ops Q ((⟨dst,.slice x0 x1 x2 x3 x4,ty,pos,aft,grd⟩:Oper)::rest) a w:=h
theorem gMS {x0:TypeId} {x1 x2:Operand} (h:wpList Tryd.prog ops Q ((⟨dst,.makeSlice x0 x1 x2,ty,pos,aft,grd⟩:Oper)::rest) a w):wpList Tryd.prog ops Q ((⟨dst,.makeSlice x0 x1 x2,ty,pos,aft,grd⟩:Oper)::rest) a w:=h
theorem gBd {x0:TypeId} {x1:Array (Nat × Operand)} (h:wpList Tryd.prog ops Q ((⟨dst,.build x0 x1,ty,pos,aft,grd⟩:Oper)::rest) a w):wpList Tryd.prog ops Q ((⟨dst,.build x0 x1,ty,pos,aft,grd⟩:Oper)::rest) a w:=h
end
theorem zKj (W:World):(Instr.build 31 #[]).run Tryd.prog W=.ok (zAa {kind:=0} nilS) W:=by kernel_rfl
theorem zNH (k:Int) (W:World):(Instr.build 31 #[(0,.int .i64 k)]).run Tryd.prog W=.ok (zAa {kind:=k} nilS) W:=by simp[go_sem];rfl
theorem zNS (k:Int) (s:Nat→Nat) (W:World):(Instr.build 31 #[(0,.int .i64 k),(1,setV s)]).run Tryd.prog W=.ok (zAa {kind:=k,set:=s} nilS) W:=by unfold setV;simp[go_sem];rfl
theorem zNf (k:Int) (p:Option Addr) (n c:Nat) (W:World):(Instr.build 31 #[(0,.int .i64 k),(2,.slice p n c)]).run Tryd.prog W=.ok (zAa {kind:=k} (.slice p n c)) W:=by simp[go_sem];rfl
theorem zEN (d:NodeD) (s:Value) (W:World):(Instr.buildSlice 29 1 #[(0,zAa d s)]).run Tryd.prog W=.ok (.slice (some ⟨W.heap.size,0,none⟩) 1 1) (W.alloc (.cells (zAQ d s) 31)):=by kernel_rfl
section
variable {M:Nat→Prop} {ops:Array Oper} {dst:Option Tmp} {ty:TypeId} {pos:String} {aft:Array Edge} {grd:Option (Nat × Bool)} {rest:List Oper} {a:Act} {w w0:World} {l:List Res} {Q:Exit→Act→World→Prop}
theorem gES {U:TypeId} {x y:Operand} (h:wpList Tryd.prog ops Q ((⟨dst,.binOp .eql 28 x y U,ty,pos,aft,grd⟩:Oper)::rest) a w):wpList Tryd.prog ops Q ((⟨dst,.binOp .eql 28 x y U,ty,pos,aft,grd⟩:Oper)::rest) a w:=h
theorem gNS {U:TypeId} {x y:Operand} (h:wpList Tryd.prog ops Q ((⟨dst,.binOp .neq 28 x y U,ty,pos,aft,grd⟩:Oper)::rest) a w):wpList Tryd.prog ops Q ((⟨dst,.binOp .neq 28 x y U,ty,pos,aft,grd⟩:Oper)::rest) a w:=h
theorem nb0 (h:wpList Tryd.prog ops Q rest (a.put dst (zAa {kind:=0} nilS)) w) (hg:Region.wanted (⟨dst,.build 31 #[],ty,pos,aft,grd⟩:Oper) (yielded ops a.tmps)=true:=by first|rfl|exact zAn rfl (zAS rfl (by first|rfl|(simp only[pe];rfl)))):wpList Tryd.prog ops Q ((⟨dst,.build 31 #[],ty,pos,aft,grd⟩:Oper)::rest) a w :=
 zAx hg (by
  simp only[execOp,List.map_toArray,List.map_nil,Sem.run_bind,zKj];rfl) h
theorem nb1 {x:Operand} {k:Int} (h:wpList Tryd.prog ops Q rest (a.put dst (zAa {kind:=k} nilS)) w) (hg:Region.wanted (⟨dst,.build 31 #[(0,x)],ty,pos,aft,grd⟩:Oper) (yielded ops a.tmps)=true:=by first|rfl|exact zAn rfl (zAS rfl (by first|rfl|(simp only[pe];rfl)))) (h0:a.eval x=.int .i64 k:=by first|(simp only[pe];done)|(simp only[pe];rfl)):wpList Tryd.prog ops Q ((⟨dst,.build 31 #[(0,x)],ty,pos,aft,grd⟩:Oper)::rest) a w :=
 zAx hg (by
  simp only[execOp,List.map_toArray,List.map_cons,List.map_nil,h0,Sem.run_bind,zNH];rfl) h
theorem nbS {x y:Operand} {k:Int} {s:Nat→Nat} (h:wpList Tryd.prog ops Q rest (a.put dst (zAa {kind:=k,set:=s} nilS)) w) (hg:Region.wanted (⟨dst,.build 31 #[(0,x),(1,y)],ty,pos,aft,grd⟩:Oper) (yielded ops a.tmps)=true:=by first|rfl|exact zAn rfl (zAS rfl (by first|rfl|(simp only[pe];rfl)))) (h0:a.eval x=.int .i64 k:=by first|(simp only[pe];done)|(simp only[pe];rfl)) (h1:a.eval y=setV s:=by (try simp only[pe]);with_reducible rfl):wpList Tryd.prog ops Q ((⟨dst,.build 31 #[(0,x),(1,y)],ty,pos,aft,grd⟩:Oper)::rest) a w :=
 zAx hg (by
  simp only[execOp,List.map_toArray,List.map_cons,List.map_nil,h0,h1,Sem.run_bind,zNS];rfl) h
theorem nbK {x y:Operand} {k:Int} {p:Option Addr} {n c:Nat} (h:wpList Tryd.prog ops Q rest (a.put dst (zAa {kind:=k} (.slice p n c))) w) (hg:Region.wanted (⟨dst,.build 31 #[(0,x),(2,y)],ty,pos,aft,grd⟩:Oper) (yielded ops a.tmps)=true:=by first|rfl|exact zAn rfl (zAS rfl (by first|rfl|(simp only[pe];rfl)))) (h0:a.eval x=.int .i64 k:=by first|(simp only[pe];done)|(simp only[pe];rfl)) (h1:a.eval y=.slice p n c:=by first|(simp only[pe];done)|(simp only[pe];rfl)):wpList Tryd.prog ops Q ((⟨dst,.build 31 #[(0,x),(2,y)],ty,pos,aft,grd⟩:Oper)::rest) a w :=
 zAx hg (by
  simp only[execOp,List.map_toArray,List.map_cons,List.map_nil,h0,h1,Sem.run_bind,zNf];rfl) h
theorem qS {x y:Operand} {t:TypeId} {s u:Nat→Nat} {q:Bool} (h:wpList Tryd.prog ops Q rest (a.put dst (.bool q)) w) (hg:Region.wanted (⟨dst,.binOp .eql 28 x y t,ty,pos,aft,grd⟩:Oper) (yielded ops a.tmps)=true:=by first|rfl|exact zAn rfl (zAS rfl (by first|rfl|(simp only[pe];rfl)))) (hx:a.eval x=setV s:=by (try simp only[pe]);with_reducible rfl) (hy:a.eval y=setV u:=by (try simp only[pe]);with_reducible rfl) (hq:eqS s u=q:=by first|assumption|rfl):wpList Tryd.prog ops Q ((⟨dst,.binOp .eql 28 x y t,ty,pos,aft,grd⟩:Oper)::rest) a w :=
 zAx hg (by
  have he:=zF6 s u w;rw[hq]at he;simp only[execOp,hx,hy];unfold setV
  simp[go_sem,he]) h
theorem qN {x y:Operand} {t:TypeId} {s u:Nat→Nat} {q:Bool} (h:wpList Tryd.prog ops Q rest (a.put dst (.bool (!q))) w) (hg:Region.wanted (⟨dst,.binOp .neq 28 x y t,ty,pos,aft,grd⟩:Oper) (yielded ops a.tmps)=true:=by first|rfl|exact zAn rfl (zAS rfl (by first|rfl|(simp only[pe];rfl)))) (hx:a.eval x=setV s:=by (try simp only[pe]);with_reducible rfl) (hy:a.eval y=setV u:=by (try simp only[pe]);with_reducible rfl) (hq:eqS s u=q:=by first|assumption|rfl):wpList Tryd.prog ops Q ((⟨dst,.binOp .neq 28 x y t,ty,pos,aft,grd⟩:Oper)::rest) a w :=
 zAx hg (by
  have he:=zF6 s u w;rw[hq]at he;simp only[execOp,hx,hy];unfold setV
  simp[go_sem,he]) h
theorem aGb (H:HoldG M w0 w l) {T:TypeId} {x:Operand} {i b:Nat} {cs:Array Value} {U:TypeId} {k:Nat} {z q:Bool} (h:wpList Tryd.prog ops Q rest (a.put dst (.bool q)) w) (hg:Region.wanted (⟨dst,.load T x,ty,pos,aft,grd⟩:Oper) (yielded ops a.tmps)=true:=by first|rfl|exact zAn rfl (zAS rfl (by first|rfl|(simp only[pe];rfl)))) (hx:a.eval x=.pointer (some ⟨b,k,none⟩):=by exact rfl) (hi:At l i (.blk b cs U):=by repeat (first|(with_reducible exact At.zero)|apply At.succ)) (hT:oneB Tryd.prog T=true:=by first|(with_reducible exact zAR)|(with_reducible exact zAM)|(with_reducible exact zCQ)|(with_reducible exact zAN)|(with_reducible exact zAJ)|(with_reducible exact one_u8)|(with_reducible exact zAZ)|(with_reducible exact zAh)|(with_reducible exact zAe)|(with_reducible exact one_u64)|(with_reducible exact zAV)|(with_reducible exact one_rwords)|(with_reducible exact one_p10)|(with_reducible exact one_ikind)|(with_reducible exact one_ints)|(with_reducible exact one_insts)|(with_reducible exact one_bools)|(with_reducible exact one_bytes)) (hv:cs[k]?=some (.bool z):=by first|(with_reducible exact wg0 _)|(with_reducible exact wg1 _)|(with_reducible exact wg2 _)|(with_reducible exact wg3 _)|(with_reducible exact wg4 _)|(with_reducible exact wg5 _)|(with_reducible exact wg6 _)|(with_reducible exact wg7 _)|(with_reducible exact wg8 _)|(with_reducible exact wg9 _)|(with_reducible exact wg10 _)|(with_reducible exact wg11 _)|(with_reducible exact wg12 _)|(with_reducible exact wg13 _)|(with_reducible exact wg14 _)|(with_reducible exact wg15 _)|(with_reducible exact wg16 _)|(with_reducible exact fg0 _)|(with_reducible exact fg1 _)|(with_reducible exact fg2 _)|(with_reducible exact ng0 _ _)|(with_reducible exact ng1 _ _)|(with_reducible exact ng2 _ _)|(with_reducible exact ng3 _ _)|(with_reducible exact ng4 _ _)|(with_reducible exact ng5 _ _)|(with_reducible exact ng6 _ _)|(with_reducible exact ng7 _ _)|(with_reducible exact ng8 _ _)|(with_reducible exact ng9 _ _)|rfl) (hq:z=q:=by assumption):wpList Tryd.prog ops Q ((⟨dst,.load T x,ty,pos,aft,grd⟩:Oper)::rest) a w :=
 by subst hq;exact zAX hg T x rfl hx H hi hT hv h
theorem aVn (H:HoldG M w0 w l) {T:TypeId} {x:Operand} {i b:Nat} {d:NodeD} {s:Value} {U:TypeId} (h:wpList Tryd.prog ops Q rest (a.put dst (setV d.set)) w) (hg:Region.wanted (⟨dst,.load T x,ty,pos,aft,grd⟩:Oper) (yielded ops a.tmps)=true:=by first|rfl|exact zAn rfl (zAS rfl (by first|rfl|(simp only[pe];rfl)))) (hx:a.eval x=.pointer (some ⟨b,1,none⟩):=by exact rfl) (hi:At l i (.blk b (zAQ d s) U):=by repeat (first|(with_reducible exact At.zero)|apply At.succ)) (hT:rowB Tryd.prog T 4=true:=by with_reducible exact zAf):wpList Tryd.prog ops Q ((⟨dst,.load T x,ty,pos,aft,grd⟩:Oper)::rest) a w :=
 zDb hg T x rfl hx H hi (setC d.set) hT rfl h
end
end
section
open Go.RowKit Go.Shelf
attribute [local go_sem] Oper.semAt_some


def UTo (L:List (Nat→Nat)) (b i:Nat) (S:Nat→Nat):Prop:=zAs S∧∀ c,c<256→hasB S c=((decide (c<b)&&L.any (fun t=>hasB t c)) || (decide (c=b)&&(L.take i).any (fun t=>hasB t c)))
theorem UTo.hit {L:List (Nat→Nat)} {b i:Nat} {S:Nat→Nat} (h:UTo L b i S) (hi:i<L.length) (hb:hasB L[i] b=true):UTo L b (i+1) (addS S b) :=
 ⟨zFr h.1 b,fun c hc=>by
  rw[zFx,h.2 c hc,List.take_succ_eq_append_getElem hi,List.any_append]
  by_cases e:c=b
  ·subst e;simp[hb]
  ·simp[e]⟩
def MTo (L:List (Nat→Nat)) (b:Nat) (S:Nat→Nat):Prop:=zAs S∧∀ c,c<256→hasB S c=(decide (c<b)&&L.all (fun t=>hasB t c))
theorem MTo.hit {L:List (Nat→Nat)} {b:Nat} {S:Nat→Nat} (h:MTo L b S) (hb:L.all (fun t=>hasB t b)=true):MTo L (b+1) (addS S b) :=
 ⟨zFr h.1 b,fun c hc=>by
  rw[zFx,h.2 c hc]
  by_cases e:c=b
  ·subst e;rw[hb];simp
  ·by_cases e2:c<b
   ·simp[e,e2,Nat.lt_succ_of_lt e2]
   ·simp[e,e2,show ¬ c<b+1 from by omega]⟩




def Knows (F:Nat→Prop) (p:Option Addr) (n c:Nat) (xs:List TV) (V:World):Prop:=RdN 10 V F (.slice p n c) (xs.map zAo)∧ListR V F xs
section
variable {F:Nat→Prop} {p:Option Addr} {n c:Nat} {xs:List TV} {V W w0:World}
theorem Knows.kept (h:Knows F p n c xs W) (hV:∀ b,F b→V.heap[b]?=W.heap[b]?):Knows F p n c xs V:=⟨h.1.kept hV,h.2.kept hV⟩
theorem Knows.forest (h:Knows F p (xs.map (·.1)).length c xs V):ForestR V F p c (xs.map (·.1)):=.mk _ _ _ xs h.1 h.2 rfl
theorem Hold.knows (hF:∀ b,F b→b<w0.heap.size) (h:Knows F p n c xs w0):Hold w0 w0 [.kn F (Knows F p n c xs)] :=
 (Hold.start w0).know F (Knows F p n c xs) hF (fun i r h=>by simp at h) (fun V hV=>h.kept hV)
theorem Knows.cells {b off:Nat} (h:Knows F (some ⟨b,off,none⟩) n c xs V) {j:Nat} {x:TV} (hj:xs[j]?=some x) {q:Nat} (hq:off+j * 10=q):∀ k,k<10→V.cell? ⟨b,q+k,none⟩=(zAo x)[k]?:=by
 obtain⟨p,c,e1,_,_,_,h3⟩:=h.1;obtain⟨b',off',e2,_,_,h4⟩:=h3 j (zAo x) (by rw[List.getElem?_map,hj];rfl)
 cases e1;cases e2;subst hq
 exact h4
theorem Knows.bound (h:Knows F p n c xs V):n=xs.length∧n≤c∧c≤9223372036854775807:=by
 obtain⟨p,c,e1,h1,h2,_,h3⟩:=h.1
 cases e1
 unfold maxLen at h2;rw[List.length_map]at h1 ⊢;exact⟨rfl,h1,h2⟩
theorem Knows.at (h:Knows F p n c xs V) (h0:0<xs.length):∃ b off,p=some ⟨b,off,none⟩:=by
 obtain⟨p,c,e1,h1,h2,_,h3⟩:=h.1
 cases e1
 obtain⟨b,off,e,_⟩:=h3 0 _ (by rw[List.getElem?_map,List.getElem?_eq_getElem h0];rfl)
 exact⟨b,off,e⟩
end
end
end Go.Proofs.YtklcgfkdemifcaaDoor
