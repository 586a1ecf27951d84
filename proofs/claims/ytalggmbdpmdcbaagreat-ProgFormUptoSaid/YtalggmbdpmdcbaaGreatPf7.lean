/-
  Laws of walks, and walks.
-/
import Derived.Test.YtalggmbdpmdcbaaGreatPf5
import Derived.Test.YtalggmbdpmdcbaaGreatPf6
set_option linter.unusedVariables false
set_option linter.unusedSimpArgs false
set_option maxRecDepth 100000
set_option maxHeartbeats 16000000
namespace Go.Proofs.YtalggmbdpmdcbaaGreat
section
open Go.RowKit
def zCK (d:NodeD) (i o:Int):InstD:=if d.lazy then {kind:=2,next:=o,other:=i} else {kind:=2,next:=i,other:=o}
abbrev LayR:=Nat × List InstD
mutual
def layP:Tree->Nat->List InstD->LayR
 | .mk d ks,out,xs =>
  if d.kind=1 then (out,xs)
  else if d.kind=2 then (xs.length,xs++[{kind:=6}])
  else if d.kind=3 then (xs.length,xs++[{kind:=1,set:=d.set,next:=out}])
  else if d.kind=4 then layC ks out xs
  else if d.kind=5 then layA ks out xs
  else if d.kind=7 then
   let a:=layH ks xs.length (xs++[{kind:=3,slot:=2 * d.group+1,next:=out}])
   (a.2.length,a.2++[{kind:=3,slot:=2 * d.group,next:=a.1}])
  else if d.kind=6 then
   if d.hi=1 then
    let a:=layH ks out xs
    (a.2.length,a.2++[zCK d a.1 out])
   else
    let a:=layH ks xs.length (xs++[{kind:=2}])
    (xs.length,a.2.set xs.length (zCK d a.1 out))
  else (xs.length,xs++[{kind:=4,spot:=d.kind,next:=out}])
def layH:List Tree->Nat->List InstD->LayR
 | [],out,xs=>(out,xs)
 | k::_,out,xs=>layP k out xs
def layC:List Tree->Nat->List InstD->LayR
 | [],out,xs=>(out,xs)
 | k::r,out,xs=>layP k (layC r out xs).1 (layC r out xs).2
def layA:List Tree->Nat->List InstD->LayR
 | [],out,xs=>(out,xs)
 | [k],out,xs=>layP k out xs
 | k::k2::r,out,xs =>
  let a:=layA (k2::r) out xs
  let b:=layP k out a.2
  (b.2.length,b.2++[{kind:=2,next:=b.1,other:=a.1}])
end
mutual
theorem zCk:∀ (t:Tree) (out:Nat) (xs:List InstD),xs.length<=(layP t out xs).2.length/\(layP t out xs).2.length<=xs.length+(3 * zAB t - 1)
 | .mk d ks,out,xs=>by
  have hc:=zJh ks out xs;have ha:=zJo ks out xs;have h7:=zHt ks xs.length (xs++[{kind:=3,slot:=2 * d.group+1,next:=out}]);have h6:=zHt ks out xs;have h8:=zHt ks xs.length (xs++[{kind:=2}]);simp only[List.length_append,List.length_cons,List.length_nil]at h7 h8;simp only[layP,zAB];split
  ·simp
  split
  ·simp;omega
  split
  ·simp;omega
  split
  ·omega
  split
  ·omega
  split
  ·simp only[List.length_append,List.length_cons,List.length_nil];omega
  split
  ·split
   ·simp only[List.length_append,List.length_cons,List.length_nil];omega
   ·simp only[List.length_set];omega
  ·simp;omega
theorem zHt:∀ (ts:List Tree) (out:Nat) (xs:List InstD),xs.length<=(layH ts out xs).2.length/\(layH ts out xs).2.length<=xs.length+(3 * zAF ts - 1)
 | [],_,_=>by simp[layH]
 | k::r,out,xs=>by
  have:=zCk k out xs;have:=zBX k;simp only[layH,zAF];omega
theorem zJh:∀ (ts:List Tree) (out:Nat) (xs:List InstD),xs.length<=(layC ts out xs).2.length/\(layC ts out xs).2.length<=xs.length+(3 * zAF ts - 1)
 | [],_,_=>by simp[layC]
 | k::r,out,xs=>by
  have h1:=zJh r out xs;have h2:=zCk k (layC r out xs).1 (layC r out xs).2;have h3:=zBX k;simp only[layC,zAF];omega
theorem zJo:∀ (ts:List Tree) (out:Nat) (xs:List InstD),xs.length<=(layA ts out xs).2.length/\(layA ts out xs).2.length<=xs.length+(3 * zAF ts - 1)
 | [],_,_=>by simp[layA]
 | [k],out,xs=>by
  have:=zCk k out xs;have:=zBX k;simp only[layA,zAF];omega
 | k::k2::r,out,xs=>by
  have h1:=zJo (k2::r) out xs;have h2:=zCk k out (layA (k2::r) out xs).2;have h3:=zBX k2;simp only[layA,List.length_append,List.length_cons,List.length_nil];have h4:=zBX k;simp only[zAF]at *;omega
end
theorem zF5:zAk (zBs 1)=true:=by decide +kernel
theorem zDf:zAk (zBs 2)=true:=by decide +kernel
theorem zB9:∀ {ts:List Tree},zAU ts=true↔∀ t ∈ ts,zAk t=true
 | []=>by simp[zAU]
 | t::r=>by simp[zAU,zB9 (ts:=r)]
theorem zGs {t:Tree} (h:zAk t=true):zAU t.kids=true:=by
 rw[zFq,Bool.and_eq_true]at h;exact h.2
theorem zGt {ts:List Tree} {i o:Int} (h:zAU ts=true):zAU (zBK ts i o)=true:=by
 rw[zB9]at h ⊢;intro t ht;obtain⟨u,hu,hx⟩:=List.mem_flatMap.1 ht;unfold zDz at hx;split at hx
 ·exact zB9.1 (zGs (h u hu)) t hx
 split at hx
 ·cases hx
 ·rw[List.mem_singleton]at hx;subst hx;exact h _ hu
theorem zIi {k:Int} {ts:List Tree} {d:Tree} (hk:k=4\/k=5) (hd:zAk d=true) (h:zAU ts=true):zAk (rowN k ts d)=true:=by
 unfold rowN;split
 ·exact hd
 ·simpa [zAU] using h
 ·rename_i h1 h2;have hl:1<ts.length:=by
   rcases ts with _|⟨a,_|⟨b,r⟩⟩
   ·exact absurd rfl h1
   ·exact absurd rfl (h2 a)
   ·simp
  rw[zAk,h,Bool.and_true];have he:eqS zAN zAN=true:=zCW _;rcases hk with rfl|rfl<;>simp[zAu,zBM,zCs,he]<;>omega
theorem zF7 {ts:List Tree} (h:zAU ts=true):zAk (catT ts)=true:=by
 unfold catT;split
 ·exact zDf
 ·exact zIi (.inl rfl) zF5 (zGt h)
theorem zGK {n:NodeD} {k:Tree} {m:Int} (hm:m = -1\/m=1) (h:zAk k=true):zAk (zC9 n k m)=true:=by
 have he:eqS zAN zAN=true:=zCW _;unfold zC9;simp only[zAk,zAU,h,Bool.and_true];rcases hm with rfl|rfl<;>simp[zAu,zBM,zCs,he]
theorem zHC {n:NodeD} {k:Tree} (h:zAk k=true):∀ m,zAU (zCi n k m)=true
 | 0=>rfl
 | m+1=>by
  simp only[zCi,zAU,Bool.and_true];exact zGK (.inr rfl) (zF7 (by simp only[zAU,h,zHC h m,Bool.and_true]))
theorem zIp {d:NodeD} {k s:Tree} (h:zAk k=true) (e:zC7 d k=some s):zAk s=true:=by
 unfold zC7 at e;split at e
 ·cases e;exact zF5
 split at e
 ·cases e;exact zDf
 split at e
 ·cases e
 ·cases e
  refine zF7 ?_
  rw[zEH,Bool.and_eq_true];refine⟨zB9.2 fun t ht=>by rw[List.eq_of_mem_replicate ht];exact h,?_⟩
  split
  ·simp only[zAU,Bool.and_true];exact zGK (.inl rfl) h
  ·exact zHC h _
theorem zId {o:Option Tree} {s:Tree} (h:capT o=some s):o=some s:=by
 unfold capT at h;split at h
 ·split at h
  ·exact h
  ·cases h
 ·cases h
mutual
theorem zFS:∀ {t s:Tree},zAk t=true->zAn t=some s->zAk s=true
 | .mk d ks,s,h,e=>by
  have h0:=h;simp only[zAk,Bool.and_eq_true]at h;simp only[zAn]at e;split at e
  ·cases e
  ·rename_i l hl;have hkl:=zDg h.2 hl;have hlen:=zDu hl;have e:=zId e;unfold zKO at e;split at e
   ·split at e
    ·cases e
    ·rename_i k r;split at e
     ·cases e;exact zDf
     ·cases e
      rw[zAk,hkl,hlen,h.1];rfl
   split at e
   ·cases e;exact zF7 hkl
   split at e
   ·cases e;exact zIi (.inr rfl) zDf (zGt hkl)
   split at e
   ·split at e
    ·cases e
    ·rename_i k r;simp only[zAU,Bool.and_eq_true]at hkl;exact zIp hkl.1 e
   ·cases e;exact h0
theorem zDg:∀ {ts l:List Tree},zAU ts=true->zAc ts=some l->zAU l=true
 | [],l,_,e=>by simp[zAc]at e;subst e;rfl
 | t::r,l,h,e=>by
  simp only[zAU,Bool.and_eq_true]at h;simp only[zAc]at e;split at e
  ·cases e
  ·rename_i x hx;split at e
   ·cases e
   ·rename_i l' hl'
    cases e
    simp only[zAU,zFS h.1 hx,zDg h.2 hl',Bool.and_true]
end
def zDP (m:Nat) (x:InstD):InstD:={x with next:=if (x.kind == 1 || x.kind == 2 || x.kind == 3 || x.kind == 4) then wrap64 (m - x.next) else x.next,other:=if x.kind == 2 then wrap64 (m - x.other) else x.other}
def zBi (zs:List InstD):List InstD:=zs.reverse.map (zDP (zs.length - 1))
def zB5:List InstD:=[{kind:=5},{kind:=3,slot:=1,next:=0}]
def zFb (s:Tree):List InstD:=(layP s 1 zB5).2++[{kind:=3,next:=(layP s 1 zB5).1}]
def zCh (t:Tree):Except Nat (List InstD):=match zBB t with
 | .error e=>.error e
 | .ok s=>if 4000<=(zFb s).length - 1 then .error 7 else .ok (zBi (zFb s))
theorem zGp (zs:List InstD):(zBi zs).length=zs.length:=by simp[zBi]
theorem zD7 {t s:Tree} (h:zBB t=.ok s):zAk s=true/\zAB s<=2000:=by
 unfold zBB at h;split at h
 ·rename_i hk;split at h
  ·cases h
  ·rename_i hs
   cases h
   exact⟨zFS hk.1 hs,zED hs⟩
 ·cases h
def zB4 (ts:List Tree):List Tree:=ts.flatMap Tree.kids
theorem zIr (a b:List Tree):zB4 (a++b)=zB4 a++zB4 b:=by simp[zB4]
theorem zKn {ts:List Tree} {j:Nat} {t:Tree} (h:ts[j]?=some t):zB4 (ts.take (j+1))=zB4 (ts.take j)++t.kids:=by
 rw[zBb h];simp[zB4]
theorem zCB:∀ ts:List Tree,zAF ts=ts.length+zAF (zB4 ts)
 | []=>rfl
 | t::r=>by
  have h:=zCB r;have h2:=zC0 t;simp only[zB4,List.flatMap_cons,zAZ,zAF,List.length_cons]at h ⊢;omega
theorem zB8:∀ ts:List Tree,ts≠[]->zBJ ts=zBJ (zB4 ts)+1
 | [],h=>absurd rfl h
 | [t],_=>by simp[zBJ,zB4,zJ1]
 | t::u::r,_=>by
  have h:=zB8 (u::r) (by simp)
  have h2:=zJ1 t;have e:zB4 (t::u::r)=t.kids++zB4 (u::r):=by simp[zB4]
  rw[e,zDU,zBJ,h];omega
def bfs:Nat->Nat->List Tree->List (Tree × Nat)
 | 0,_,_=>[]
 | n+1,d,row=>row.map (fun t=>(t,d))++bfs n (d+1) (zB4 row)
theorem zI5:∀ n d,bfs n d []=[]
 | 0,_=>rfl
 | n+1,d=>by simp only[bfs,List.map_nil,List.nil_append,zB4,List.flatMap_nil];exact zI5 n (d+1)
theorem zMG:∀ (n d:Nat) (row:List Tree),zBJ row<=n->(bfs n d row).length=zAF row
 | 0,d,row,h=>by
  cases row with
  | nil=>rfl
  | cons t r=>have:=zB8 (t::r) (by simp);omega
 | n+1,d,row,h=>by
  by_cases hr:row=[]
  ·subst hr;rw[zI5];rfl
  ·have h1:=zB8 row hr;have h2:=zMG n (d+1) (zB4 row) (by omega)
   have h3:=zCB row;simp only[bfs,List.length_append,List.length_map,h2];omega
mutual
def allT (p:Tree->Bool):Tree->Bool
 | .mk d ks=>p (.mk d ks)&&zC8 p ks
def zC8 (p:Tree->Bool):List Tree->Bool
 | []=>true
 | t::r=>allT p t&&zC8 p r
end
theorem zOX (p:Tree->Bool) (t:Tree):allT p t=(p t&&zC8 p t.kids):=by cases t;simp[allT,Tree.kids]
theorem zFV (p:Tree->Bool):∀ a b:List Tree,zC8 p (a++b)=(zC8 p a&&zC8 p b)
 | [],b=>by simp[zC8]
 | t::r,b=>by simp only[List.cons_append,zC8,zFV p r b,Bool.and_assoc]
theorem zGe (p:Tree->Bool):∀ ts:List Tree,zC8 p ts=(ts.all p&&zC8 p (zB4 ts))
 | []=>rfl
 | t::r=>by
  have h:=zGe p r;have e:zB4 (t::r)=t.kids++zB4 r:=by simp[zB4]
  rw[e,zFV,zC8,zOX,h,List.all_cons]
  cases p t<;>cases zC8 p t.kids<;>cases r.all p<;>simp
theorem zLz (p:Tree->Bool):∀ (n d:Nat) (row:List Tree),zBJ row<=n->(bfs n d row).all (fun x=>p x.1)=zC8 p row
 | 0,d,row,h=>by
  cases row with
  | nil=>rfl
  | cons t r=>have:=zB8 (t::r) (by simp);omega
 | n+1,d,row,h=>by
  by_cases hr:row=[]
  ·subst hr;rw[zI5];rfl
  ·have h1:=zB8 row hr;have h2:=zLz p n (d+1) (zB4 row) (by omega)
   rw[zGe,← h2];simp only[bfs,List.all_append,List.all_map];rfl
mutual
theorem zGo:∀ t:Tree,zAk t=allT (fun t=>zAu t.d t.kids.length) t
 | .mk d ks=>by simp only[zAk,allT,Tree.d,Tree.kids,zGB ks]
theorem zGB:∀ ts:List Tree,zAU ts=zC8 (fun t=>zAu t.d t.kids.length) ts
 | []=>rfl
 | t::r=>by simp only[zAU,zC8,zGo t,zGB r]
end
def zBO (t:Tree):List (Tree × Nat):=bfs (zC4 t) 1 [t]
theorem zD8 (t:Tree):(zBO t).length=zAB t:=by
 unfold zBO;rw[zMG _ _ _ (by rw[zD5];exact Nat.le_refl _),zAx]
theorem zFF (p:Tree->Bool) (t:Tree):(zBO t).all (fun x=>p x.1)=allT p t:=by
 unfold zBO;rw[zLz p _ _ _ (by rw[zD5];exact Nat.le_refl _)]
 simp[zC8]
structure RelK (b:Nat) (vs:List (Nat × Value)) (w w':World):Prop where
 os:w'.os=w.os
 tape:w'.tape=w.tape
 output:w'.output=w.output
 size:w.heap.size<=w'.heap.size
 old:∀ k,k<w.heap.size->k≠b->w'.heap[k]?=w.heap[k]?
 at0:∀ cs T,w.heap[b]?=some (.cells cs T (0,0))->∃ ds:Array Value,w'.heap[b]?=some (.cells ds T (0,0))/\ds.size=cs.size/\∀ i,ds[i]?=cs[i]?\/∃ v,(i,v) ∈ vs/\ds[i]?=some v
section
variable {b:Nat} {vs:List (Nat × Value)}
theorem RelK.refl (w:World):RelK b vs w w:=⟨rfl,rfl,rfl,Nat.le_refl _,fun _ _ _=>rfl,fun cs T h=>⟨cs,h,rfl,fun _=>.inl rfl⟩⟩
theorem RelK.trans (u v w:World) (h:RelK b vs u v) (k:RelK b vs v w):RelK b vs u w:=by
 refine⟨k.os.trans h.os,k.tape.trans h.tape,k.output.trans h.output,Nat.le_trans h.size k.size,fun i h1 h2=>(k.old i (Nat.lt_of_lt_of_le h1 h.size) h2).trans (h.old i h1 h2),fun cs T hc=>?_⟩
 obtain⟨ds,h1,h2,h3⟩:=h.at0 cs T hc;obtain⟨es,k1,k2,k3⟩:=k.at0 ds T h1;refine⟨es,k1,k2.trans h2,fun i=>?_⟩
 rcases k3 i with e|e
 ·rw[e];exact h3 i
 ·exact .inr e
theorem RelK.drew (w:World):RelK b vs w {w with drawn:=w.drawn+1}:=⟨rfl,rfl,rfl,Nat.le_refl _,fun _ _ _=>rfl,fun cs T h=>⟨cs,h,rfl,fun _=>.inl rfl⟩⟩
theorem RelK.of_below {w w':World} (h:Below w.heap.size w w'):RelK b vs w w':=⟨h.os,h.tape,h.output,h.size,fun k hk _=>h.block k hk,fun cs T hc=>⟨cs,(h.block b (Array.getElem?_eq_some_iff.1 hc).1).trans hc,rfl,fun _=>.inl rfl⟩⟩
def zLX (b i:Nat) (v u:Value) (w:World):Prop:=u=.pointer (some ⟨b,i,none⟩)/\∃ cs T,w.heap[b]?=some (.cells cs T (0,0))/\cs[i]?=some v
theorem zIG {i:Nat} {v:Value} (hd:∀ v',(i,v') ∈ vs->v'=v):zFC (RelK b vs) (zLX b i v):=fun u w w' ⟨e,cs,T,h1,h2⟩ hr=>by
 obtain⟨ds,k1,_,k3⟩:=hr.at0 cs T h1;refine⟨e,ds,T,k1,?_⟩
 rcases k3 i with f|⟨v',f1,f2⟩
 ·rw[f];exact h2
 ·rw[hd v' f1]at f2;exact f2
theorem HoldG.relK {M:Nat->Prop} {w0 w W:World} {l:List Res} (H:HoldG M w0 w l) {i:Nat} {cs:Array Value} {T:TypeId} (hi:At l i (.blk b cs T)) (hr:RelK b vs w W):∃ ds:Array Value,ds.size=cs.size/\(∀ i,ds[i]?=cs[i]?\/∃ v,(i,v) ∈ vs/\ds[i]?=some v)/\HoldG M w0 W (l.set i (.blk b ds T)):=by
 have hb:=H.blk hi;obtain⟨ds,h1,h2,h3⟩:=hr.at0 cs T hb.2;exact⟨ds,h2,h3,H.upd hi.get ⟨hr.os,hr.tape,hr.output,hr.size,fun k h1 h2=>hr.old k h1 (fun e=>h2 (by rw[e];rfl))⟩ ⟨hb.1,h1⟩ (fun _ e=>.inl e)⟩
theorem zIw {P:Program} {ops:Array Oper} {o:Oper} {a:Act} {w:World} {S:TypeId} {m:Tmp} {y:Operand} {i:Nat} {v:Value} (hg:Region.wanted o (yielded ops a.tmps)=true) (hop:o.op=.store S (.tmp m) y) (hdst:o.dst=none) (hm:a.eval (.tmp m)=.pointer (some ⟨b,i,none⟩)) (hy:a.eval y=v) (hv:(i,v) ∈ vs)
  (hb:∃ cs T,w.heap[b]?=some (.cells cs T (0,0))/\i<cs.size) (hT:zCe P S 1=true) (h1:v.oneCell'=true):zB3 P ops (RelK b vs) o a w (fun u w'=>zLX b i v u w'/\(o.dst=none->u=zFx o a)):=by
 obtain⟨cs,T,hb,hs⟩:=hb;unfold zB3;rw[if_pos hg];unfold Oper.wp;have h0:(⟨b,i,none⟩:Addr).add 0=⟨b,i,none⟩:=by rw[Addr.add_mid];rfl
 have hcell:(w.cell? ⟨b,i,none⟩).isSome=true:=by rw[cell_of_row w b i cs T (0,0) hb];simp[hs]
 have hfz:w.frozen? ⟨b,i,none⟩=false:=by simp[World.frozen?,hb]
 have hr':(execOp a.eval o).run P w=.ok .skip (w.setCell ⟨b,i,none⟩ v):=by
  unfold execOp;simp only[hop,hm,hy,Instr.storeAt,Instr.sureAddr,Sem.run_bind,Sem.run_pure,Result.andThen_ok,zCR (P:=P) (w:=w) hT h1 hcell hfz h0]
 rw[hr'];simp only[Oper.upon];have hg2:=zB7 w b i v;have hh:=heap_setCell (k:=i) hb v;refine⟨.pointer (some ⟨b,i,none⟩),(by rw[hdst];rfl),⟨hg2.os,hg2.tape,hg2.output,hg2.size,fun j hj hne=>hg2.block j hj (fun e=>by cases e;exact hne rfl),fun cs' T' hc=>?_⟩,⟨rfl,_,_,hh,?_⟩,fun _=>?_⟩
 ·rw[hb]at hc;cases hc
  refine⟨_,hh,by simp,fun j=>?_⟩
  by_cases hji:i=j
  ·subst hji;refine .inr ⟨v,hv,?_⟩
   simp[hs]
  ·exact .inl (Array.getElem?_setIfInBounds_ne hji)
 ·simp[hs]
 ·unfold zFx ownT;rw[hop];exact hm.symm
end
end
section
open Go.RowKit Go.Shelf
attribute [local go_sem] Oper.semAt_some
theorem zP1 (t:Array Value) (h:t.size=114):∃ x0 x1 x2 x3 x4 x5 x6 x7 x8 x9 x10 x11 x12 x13 x14 x15 x16 x17 x18 x19 x20 x21 x22 x23 x24 x25 x26 x27 x28 x29 x30 x31 x32 x33 x34 x35 x36 x37 x38 x39 x40 x41 x42 x43 x44 x45 x46 x47 x48 x49 x50 x51 x52 x53 x54 x55 x56 x57 x58 x59 x60 x61 x62 x63 x64 x65 x66 x67 x68 x69 x70 x71 x72 x73 x74 x75 x76 x77 x78 x79 x80 x81 x82 x83 x84 x85 x86 x87 x88 x89 x90 x91 x92 x93 x94 x95 x96 x97 x98 x99 x100 x101 x102 x103 x104 x105 x106 x107 x108 x109 x110 x111 x112 x113:Value,t=List.toArray (x0::x1::x2::x3::x4::x5::x6::x7::x8::x9::x10::x11::x12::x13::x14::x15::x16::x17::x18::x19::x20::x21::x22::x23::x24::x25::x26::x27::x28::x29::x30::x31::x32::x33::x34::x35::x36::x37::x38::x39::x40::x41::x42::x43::x44::x45::x46::x47::x48::x49::x50::x51::x52::x53::x54::x55::x56::x57::x58::x59::x60::x61::x62::x63::x64::x65::x66::x67::x68::x69::x70::x71::x72::x73::x74::x75::x76::x77::x78::x79::x80::x81::x82::x83::x84::x85::x86::x87::x88::x89::x90::x91::x92::x93::x94::x95::x96::x97::x98::x99::x100::x101::x102::x103::x104::x105::x106::x107::x108::x109::x110::x111::x112::x113::[]):=by
 rw[zPJ t 114 h];exact⟨_,_,_,_,_,_,_,_,_,_,_,_,_,_,_,_,_,_,_,_,_,_,_,_,_,_,_,_,_,_,_,_,_,_,_,_,_,_,_,_,_,_,_,_,_,_,_,_,_,_,_,_,_,_,_,_,_,_,_,_,_,_,_,_,_,_,_,_,_,_,_,_,_,_,_,_,_,_,_,_,_,_,_,_,_,_,_,_,_,_,_,_,_,_,_,_,_,_,_,_,_,_,_,_,_,_,_,_,_,_,_,_,_,_,rfl⟩
theorem zOl {o:Oper} {a:Act} {w:World} {x y:Operand} {U:TypeId} {s u:Nat->Nat} (hop:o.op=.binOp .eql 25 x y U) (hx:a.eval x=setV s) (hy:a.eval y=setV u):(execOp a.eval o).run Tryz.prog w=.ok (.value (.bool (eqS s u))) w:=by
 have he:=zGb s u w;simp only[execOp,hop,hx,hy];unfold setV;simp[go_sem,he]
theorem zNG (d:NodeD) (s:Value) (x:Nat->Nat):(((((zAR d s).setIfInBounds 1 (.int .u64 (x 0))).setIfInBounds (1+1) (.int .u64 (x 1))).setIfInBounds (1+1+1) (.int .u64 (x 2))).setIfInBounds (1+1+1+1) (.int .u64 (x 3)))=zAR {d with set:=x} s:=rfl
theorem zNI (d:NodeD) (s:Value) (x:Int):(zAR d s).setIfInBounds 7 (.int .i64 x)=zAR {d with hi:=x} s:=rfl
theorem zGX (d:NodeD) (n:Nat) (h:d.kind<1\/d.kind > 13):zBM d n=false:=by
 unfold zBM;rw[if_neg (by omega),if_neg (by omega),if_neg (by omega),if_neg (by omega)]
 rcases h with h|h
 ·rw[show decide (1<=d.kind)=false by simp;omega];rfl
 ·rw[show decide (d.kind<=13)=false by simp;omega];simp
theorem zJN (d ds:Array Value) {a b c:Value} (hs:ds.size=10) (hd:d.size=10) (h:∀ i,ds[i]?=d[i]?\/∃ v,(i,v) ∈ ([(6,a),(7,b),(8,c)]:List (Nat × Value))/\ds[i]?=some v) (h6:ds[6]?=some a) (h7:ds[7]?=some b) (h8:ds[8]?=some c):ds=((d.setIfInBounds 6 a).setIfInBounds 7 b).setIfInBounds 8 c:=by
 apply Array.ext_getElem?;intro i;simp only[Array.getElem?_setIfInBounds,Array.size_setIfInBounds,hd]
 by_cases e8:8=i
 ·subst e8;simp[h8]
 rw[if_neg e8]
 by_cases e7:7=i
 ·subst e7;simp[h7]
 rw[if_neg e7]
 by_cases e6:6=i
 ·subst e6;simp[h6]
 rw[if_neg e6];rcases h i with e|⟨v,e,_⟩
 ·exact e
 ·simp at e;omega
theorem zN0 (d:NodeD) (s:Value) (x:Int):(zAR d s).setIfInBounds 9 (.int .i64 x)=zAR {d with group:=x} s:=rfl
def zDA (d:NodeD):NodeD:=if d.kind=3 then {kind:=d.kind,set:=d.set} else if d.kind=6 then {kind:=d.kind,lo:=min (max d.lo 0) 100,hi:=if d.hi = -1 then min d.hi 100 else if min d.hi 100<min (max d.lo 0) 100 then min (max d.lo 0) 100 else min d.hi 100,lazy:=d.lazy} else if d.kind=7 then {kind:=d.kind,group:=min (max d.group 1) 20} else {kind:=d.kind}
def zDy (d:NodeD) (n:Nat):Int:=if d.kind=4\/d.kind=5 then (if (n:Int)<2 then 2 else n) else if d.kind=6\/d.kind=7 then 1 else 0
theorem zMU (d:NodeD) (n:Nat) (h:1<=d.kind/\d.kind<=13):((((((eqS d.set (zDA d).set&&d.lo == (zDA d).lo)&&d.hi == (zDA d).hi)&&d.lazy == (zDA d).lazy)&&d.group == (zDA d).group)&&(n:Int) == zDy d n)&&((d.kind == 3) == !eqS d.set zAN))=zAu d n:=by
 obtain⟨z,hz⟩:∃ z,d.lazy=z:=⟨_,rfl⟩;obtain⟨e,he⟩:∃ e,eqS d.set zAN=e:=⟨_,rfl⟩;unfold zDA zDy
 by_cases h3:d.kind=3
 ·rw[if_pos h3,if_neg (by omega),if_neg (by omega)]
  cases e<;>cases z<;>(rw[Bool.eq_iff_iff];simp[zAu,zBM,zCs,he,hz,zCW,h3]<;>omega)
 rw[if_neg h3]
 by_cases h4:d.kind=4
 ·rw[if_neg (by omega),if_neg (by omega),if_pos (by omega)]
  obtain⟨K,hK⟩:∃ K:Int,(if (n:Int)<2 then 2 else (n:Int))=K:=⟨_,rfl⟩
  rw[hK];have hK2:K=2/\(n:Int)<2\/K=n/\2<=(n:Int):=by rw[← hK];split<;>omega
  cases e<;>cases z<;>(rw[Bool.eq_iff_iff];simp[zAu,zBM,zCs,he,hz,zCW,h4]<;>omega)
 by_cases h5:d.kind=5
 ·rw[if_neg (by omega),if_neg (by omega),if_pos (by omega)]
  obtain⟨K,hK⟩:∃ K:Int,(if (n:Int)<2 then 2 else (n:Int))=K:=⟨_,rfl⟩
  rw[hK];have hK2:K=2/\(n:Int)<2\/K=n/\2<=(n:Int):=by rw[← hK];split<;>omega
  cases e<;>cases z<;>(rw[Bool.eq_iff_iff];simp[zAu,zBM,zCs,he,hz,zCW,h5]<;>omega)
 by_cases h6:d.kind=6
 ·rw[if_pos h6,if_neg (show ¬ (d.kind=4\/d.kind=5) by omega),if_pos (show d.kind=6\/d.kind=7 by omega)]
  obtain⟨A0,hA⟩:∃ A0:Int,min (max d.lo 0) 100=A0:=⟨_,rfl⟩;obtain⟨B0,hB⟩:∃ B0:Int,min d.hi 100=B0:=⟨_,rfl⟩;rw[hA,hB]
  by_cases hh:d.hi = -1
  ·rw[if_pos hh]
   cases e<;>cases z<;>(rw[Bool.eq_iff_iff];simp[zAu,zBM,zCs,he,hz,zCW,h6]<;>omega)
  ·rw[if_neg hh];obtain⟨M,hM⟩:∃ M:Int,(if B0<A0 then A0 else B0)=M:=⟨_,rfl⟩
   rw[hM];have hM2:M=A0/\B0<A0\/M=B0/\A0<=B0:=by rw[← hM];split<;>omega
   cases e<;>cases z<;>(rw[Bool.eq_iff_iff];simp[zAu,zBM,zCs,he,hz,zCW,h6]<;>omega)
 rw[if_neg h6]
 by_cases h7:d.kind=7
 ·rw[if_pos h7,if_neg (by omega),if_pos (by omega)]
  obtain⟨G0,hG⟩:∃ G0:Int,min (max d.group 1) 20=G0:=⟨_,rfl⟩;rw[hG]
  cases e<;>cases z<;>(rw[Bool.eq_iff_iff];simp[zAu,zBM,zCs,he,hz,zCW,h7]<;>omega)
 rw[if_neg h7,if_neg (by omega),if_neg (by omega)]
 cases e<;>cases z<;>(rw[Bool.eq_iff_iff];simp[zAu,zBM,zCs,he,hz,zCW,h3,h4,h5,h6,h7]<;>omega)
theorem zOo (d:NodeD) (p:Option Addr) (n c:Nat) (hn:n<=1000000000) (hc:n<=c) (w0:World) :
  Calls Tryz.prog 87 #[zAV d (.slice p n c)] w0 (Rt (.bool (zAu d n)) w0):=by
 have H:=Hold.start w0
 by_cases hlo:d.kind<1
 ·have dl:decide (d.kind<1)=true:=decide_eq_true hlo;have d3:(d.kind == 3)=false:=by rw[beq_eq_false_iff_ne];omega
  have d4:(d.kind == 4)=false:=by rw[beq_eq_false_iff_ne];omega
  have d5:(d.kind == 5)=false:=by rw[beq_eq_false_iff_ne];omega
  have d6:(d.kind == 6)=false:=by rw[beq_eq_false_iff_ne];omega
  have d7:(d.kind == 7)=false:=by rw[beq_eq_false_iff_ne];omega
  have HK:=Lib.hid hlo;clear hlo
  go_enter Tryz.func87,Tryz.ntmps87
  go_wp2_with (first|((with_reducible refine kg 1 ?_);(first|refine kA 1 H ?_|refine kS 1 H ?_|refine kB 1 H ?_);clear H;intro b1 w H;try simp only[nr]at H)|((with_reducible refine kg 3 ?_);(first|refine kA 3 H ?_|refine kS 3 H ?_|refine kB 3 H ?_);clear H;intro b3 w H;try simp only[nr]at H)|(first|((with_reducible refine gT ?_);(refine aT H ?_;clear H;intro w H;try simp only[nr]at H))|((with_reducible refine gL ?_);refine aG H ?_)|((with_reducible refine gZ ?_);refine nbK ?_)))
  go_ret;exact⟨retb (by rw[zAu,zGX d n (.inl HK.out)];rfl),H.below⟩
 have dl:decide (d.kind<1)=false:=decide_eq_false hlo
 by_cases hhi:d.kind > 13
 ·have dh:decide (d.kind > 13)=true:=decide_eq_true hhi;have dh2:decide (13<d.kind)=true:=decide_eq_true hhi;have d3:(d.kind == 3)=false:=by rw[beq_eq_false_iff_ne];omega
  have d4:(d.kind == 4)=false:=by rw[beq_eq_false_iff_ne];omega
  have d5:(d.kind == 5)=false:=by rw[beq_eq_false_iff_ne];omega
  have d6:(d.kind == 6)=false:=by rw[beq_eq_false_iff_ne];omega
  have d7:(d.kind == 7)=false:=by rw[beq_eq_false_iff_ne];omega
  have HK:=Lib.hid hhi;clear hlo hhi
  go_enter Tryz.func87,Tryz.ntmps87
  go_wp2_with (first|((with_reducible refine kg 1 ?_);(first|refine kA 1 H ?_|refine kS 1 H ?_|refine kB 1 H ?_);clear H;intro b1 w H;try simp only[nr]at H)|((with_reducible refine kg 3 ?_);(first|refine kA 3 H ?_|refine kS 3 H ?_|refine kB 3 H ?_);clear H;intro b3 w H;try simp only[nr]at H)|(first|((with_reducible refine gT ?_);(refine aT H ?_;clear H;intro w H;try simp only[nr]at H))|((with_reducible refine gL ?_);refine aG H ?_)|((with_reducible refine gZ ?_);refine nbK ?_)))
  go_ret;exact⟨retb (by rw[zAu,zGX d n (.inr HK.out)];rfl),H.below⟩
 have dh:decide (d.kind > 13)=false:=decide_eq_false hhi;have dh2:decide (13<d.kind)=false:=decide_eq_false hhi;have HR:=Lib.hid (And.intro hlo hhi);clear hlo hhi
 go_enter Tryz.func87,Tryz.ntmps87
 go_upto_block 0 with (first|((with_reducible refine kg 1 ?_);(first|refine kA 1 H ?_|refine kS 1 H ?_|refine kB 1 H ?_);clear H;intro b1 w H;try simp only[nr]at H)|((with_reducible refine kg 3 ?_);(first|refine kA 3 H ?_|refine kS 3 H ?_|refine kB 3 H ?_);clear H;intro b3 w H;try simp only[nr]at H)|(first|((with_reducible refine gT ?_);(refine aT H ?_;clear H;intro w H;try simp only[nr]at H))|((with_reducible refine gL ?_);refine aG H ?_)|((with_reducible refine gZ ?_);refine nbK ?_)))
 simp only[pl];refine wp_cut (fun a' w'=>(∃ t:Array Value,a'=({tmps:=t,defers:=[]}:Act)/\t.size=114/\t[1]?=some (.pointer (some ⟨b1,0,none⟩))/\t[3]?=some (.pointer (some ⟨b3,0,none⟩))/\t[4]?=some (.int .i64 (zDy d n)))/\Hold w0 w' [.blk b1 (zAR d (.slice p n c)) 28,.blk b3 (zAR (zDA d) (.slice p n c)) 28]) ?rest ?first
 case first =>
  intro J K' hJ hM
  by_cases h3:d.kind=3
  ·have d3:(d.kind == 3)=true:=by rw[h3];rfl
   have HK:=Lib.hid h3;clear h3
   go_wp2_with (first|((with_reducible refine kg 1 ?_);(first|refine kA 1 H ?_|refine kS 1 H ?_|refine kB 1 H ?_);clear H;intro b1 w H;try simp only[nr]at H)|((with_reducible refine kg 3 ?_);(first|refine kA 3 H ?_|refine kS 3 H ?_|refine kB 3 H ?_);clear H;intro b3 w H;try simp only[nr]at H)|(first|((with_reducible refine gT ?_);(refine aN H ?_;clear H;intro w H;(try simp only[nr]at H);try simp only[zBS,nrl]at H))|((with_reducible refine gL ?_);refine aVn H ?_)))
   rw[zNG]at H;have EB:=Lib.hid (show zDA d={kind:=d.kind,set:=d.set} by unfold zDA;rw[if_pos HK.out])
   have EK:=Lib.hid (show zDy d n=0 by have hk:=HK.out;unfold zDy;rw[if_neg (by omega),if_neg (by omega)])
   rw[← EB.out]at H
   (refine Met.intro ?_;go_step;exact⟨⟨_,rfl,rfl,rfl,rfl,by rw[EK.out];(first|rfl|(rw[if_pos (by omega)];rfl)|(rw[if_neg (by omega)];rfl))⟩,H⟩)
  have d3:(d.kind == 3)=false:=by rw[beq_eq_false_iff_ne];exact h3
  by_cases h45:d.kind=4\/d.kind=5
  ·obtain⟨q4,hq4⟩:∃ q,(d.kind == 4)=q:=⟨_,rfl⟩;have d5:q4=false->(d.kind == 5)=true:=fun h=>by rcases h45 with h4|h5;(rw[h4,h]at hq4;exact absurd hq4 (by decide));(rw[h5];rfl)
   have HK:=Lib.hid h45;clear h3 h45
   cases q4
   all_goals
    (try have d5:=d5 rfl)
    go_wp2_with (first|((with_reducible refine kg 1 ?_);(first|refine kA 1 H ?_|refine kS 1 H ?_|refine kB 1 H ?_);clear H;intro b1 w H;try simp only[nr]at H)|((with_reducible refine kg 3 ?_);(first|refine kA 3 H ?_|refine kS 3 H ?_|refine kB 3 H ?_);clear H;intro b3 w H;try simp only[nr]at H)|((with_reducible refine gL ?_);refine aG H ?_))
    all_goals
     have EB:=Lib.hid (show zDA d={kind:=d.kind} by have hk:=HK.out;unfold zDA;rw[if_neg (by omega),if_neg (by omega),if_neg (by omega)])
     have EK:=Lib.hid (show zDy d n=if (n:Int)<2 then 2 else (n:Int) by have hk:=HK.out;unfold zDy;rw[if_pos hk])
     rw[← EB.out]at H
     (refine Met.intro ?_;go_step;exact⟨⟨_,rfl,rfl,rfl,rfl,by rw[EK.out];(first|rfl|(rw[if_pos (by omega)];rfl)|(rw[if_neg (by omega)];rfl))⟩,H⟩)
  have d4:(d.kind == 4)=false:=by rw[beq_eq_false_iff_ne];omega
  have d5:(d.kind == 5)=false:=by rw[beq_eq_false_iff_ne];omega
  by_cases h6:d.kind=6
  ·have d6:(d.kind == 6)=true:=by rw[h6];rfl
   have HK:=Lib.hid h6;clear h3 h45 h6
   go_upto_region 12 with (first|((with_reducible refine kg 1 ?_);(first|refine kA 1 H ?_|refine kS 1 H ?_|refine kB 1 H ?_);clear H;intro b1 w H;try simp only[nr]at H)|((with_reducible refine kg 3 ?_);(first|refine kA 3 H ?_|refine kS 3 H ?_|refine kB 3 H ?_);clear H;intro b3 w H;try simp only[nr]at H)|fail)
   obtain⟨A0,hA0⟩:∃ A0:Int,min (max d.lo 0) 100=A0:=⟨_,rfl⟩;obtain⟨B0,hB0⟩:∃ B0:Int,min d.hi 100=B0:=⟨_,rfl⟩;have HAB:=Lib.hid (And.intro hA0 hB0);clear hA0 hB0;have hS:∀ W,RelK b3 [(6,.int .i64 A0),(7,.int .i64 B0),(8,.bool d.lazy)] w W->∃ ds:Array Value,ds.size=10/\(∀ i,ds[i]?=(zAR {kind:=d.kind} (.slice p n c))[i]?\/∃ v,(i,v) ∈ ([(6,.int .i64 A0),(7,.int .i64 B0),(8,.bool d.lazy)]:List (Nat × Value))/\ds[i]?=some v)/\Hold w0 W [.blk b1 (zAR d (.slice p n c)) 28,.blk b3 ds 28]:=fun W hr=>by
    obtain⟨ds,h1,h2,h3⟩:=H.relK (i:=1) i_1 hr;exact⟨ds,h1,h2,h3⟩
   refine zCp (RelK b3 [(6,.int .i64 A0),(7,.int .i64 B0),(8,.bool d.lazy)]) RelK.refl RelK.trans RelK.drew 16 [fun u _=>u=pt b1 6,fun u _=>u=.int .i64 d.lo,fun u _=>u=.int .i64 (max d.lo 0),fun u _=>u=.int .i64 A0,fun u _=>u=pt b1 7,fun u _=>u=.int .i64 d.hi,fun u _=>u=.int .i64 B0,fun u _=>u=pt b1 8,fun u _=>u=.bool d.lazy,fun u _=>u=.int .i64 1,fun u _=>u=pt b3 6,zLX b3 6 (.int .i64 A0),fun u _=>u=pt b3 7,zLX b3 7 (.int .i64 B0),fun u _=>u=pt b3 8,zLX b3 8 (.bool d.lazy)]
    (by repeat (first|exact trivial|refine⟨zAy _,?_⟩|refine⟨zIG (fun v' hv'=>by simpa using hv'),?_⟩)) (by kernel_rfl) (by kernel_rfl) (by kernel_rfl) ?ob ?en
   case ob =>
    refine⟨?_,?_,?_,?_,?_,?_,?_,?_,?_,?_,?_,?_,?_,?_,?_,?_,trivial⟩<;>intro A W h
    ·(have e:A.eval (.tmp 1)=.pointer (some ⟨b1,0,none⟩):=h.f 1;refine zCt rfl (zAS RelK.refl rfl ?_);simp only[execOp,e];simp[go_sem])
    ·(obtain⟨ds,_,_,H2⟩:=hS W h.rel;exact zCt rfl (zAS RelK.refl rfl (zAD rfl (h.d 0 35) zAC (H2.cell (i:=0) .zero 6))))
    ·exact zCt rfl (zAS RelK.refl rfl (zEk rfl (h.d 1 36) rfl))
    ·(rw[← HAB.out.1];exact zCt rfl (zAS RelK.refl rfl (zEh rfl (h.d 2 37) rfl)))
    ·(have e:A.eval (.tmp 1)=.pointer (some ⟨b1,0,none⟩):=h.f 1;refine zCt rfl (zAS RelK.refl rfl ?_);simp only[execOp,e];simp[go_sem])
    ·(obtain⟨ds,_,_,H2⟩:=hS W h.rel;exact zCt rfl (zAS RelK.refl rfl (zAD rfl (h.d 4 39) zAC (H2.cell (i:=0) .zero 7))))
    ·(rw[← HAB.out.2];exact zCt rfl (zAS RelK.refl rfl (zEh rfl (h.d 5 40) rfl)))
    ·(have e:A.eval (.tmp 1)=.pointer (some ⟨b1,0,none⟩):=h.f 1;refine zCt rfl (zAS RelK.refl rfl ?_);simp only[execOp,e];simp[go_sem])
    ·(obtain⟨ds,_,_,H2⟩:=hS W h.rel;exact zCt rfl (zAS RelK.refl rfl (zAD rfl (h.d 7 42) zA9 (H2.cell (i:=0) .zero 8))))
    ·exact zCt rfl (zM1 RelK.refl rfl rfl rfl)
    ·(have e:A.eval (.tmp 3)=.pointer (some ⟨b3,0,none⟩):=h.f 3;refine zCt rfl (zAS RelK.refl rfl ?_);simp only[execOp,e];simp[go_sem])
    ·(obtain⟨ds,hz,_,H2⟩:=hS W h.rel;exact zIw rfl rfl rfl (h.d 10 44) (h.d 3 38) (.head _) ⟨ds,_,(H2.blk (i:=1) i_1).2,by omega⟩ (zAE zAC) rfl)
    ·(have e:A.eval (.tmp 3)=.pointer (some ⟨b3,0,none⟩):=h.f 3;refine zCt rfl (zAS RelK.refl rfl ?_);simp only[execOp,e];simp[go_sem])
    ·(obtain⟨ds,hz,_,H2⟩:=hS W h.rel;exact zIw rfl rfl rfl (h.d 12 45) (h.d 6 41) (.tail _ (.head _)) ⟨ds,_,(H2.blk (i:=1) i_1).2,by omega⟩ (zAE zAC) rfl)
    ·(have e:A.eval (.tmp 3)=.pointer (some ⟨b3,0,none⟩):=h.f 3;refine zCt rfl (zAS RelK.refl rfl ?_);simp only[execOp,e];simp[go_sem])
    ·(obtain⟨ds,hz,_,H2⟩:=hS W h.rel;exact zIw rfl rfl rfl (h.d 14 46) (h.d 8 43) (.tail _ (.tail _ (.head _))) ⟨ds,_,(H2.blk (i:=1) i_1).2,by omega⟩ (zAE zA9) rfl)
   case en =>
    intro vals W1 hrel hv hlk;have v0:vals 0=.pointer (some ⟨b1,6,none⟩):=hv 0 (by omega)
    have v1:vals 1=.int .i64 d.lo:=hv 1 (by omega)
    have v2:vals 2=.int .i64 (max d.lo 0):=hv 2 (by omega)
    have v3:vals 3=.int .i64 A0:=hv 3 (by omega)
    have v4:vals 4=.pointer (some ⟨b1,7,none⟩):=hv 4 (by omega)
    have v5:vals 5=.int .i64 d.hi:=hv 5 (by omega)
    have v6:vals 6=.int .i64 B0:=hv 6 (by omega)
    have v7:vals 7=.pointer (some ⟨b1,8,none⟩):=hv 7 (by omega)
    have v8:vals 8=.bool d.lazy:=hv 8 (by omega)
    have v9:vals 9=.int .i64 1:=hv 9 (by omega)
    have v10:vals 10=.pointer (some ⟨b3,6,none⟩):=hv 10 (by omega)
    have v12:vals 12=.pointer (some ⟨b3,7,none⟩):=hv 12 (by omega)
    have v14:vals 14=.pointer (some ⟨b3,8,none⟩):=hv 14 (by omega)
    obtain⟨ds,hz,hd,H2⟩:=hS W1 hrel;have hblk:=(H2.blk (i:=1) i_1).2;have hds:ds=zAR {kind:=d.kind,lo:=A0,hi:=B0,lazy:=d.lazy} (.slice p n c):=by
     obtain⟨_,cs6,T6,x6,y6⟩:=hv 11 (by omega)
     obtain⟨_,cs7,T7,x7,y7⟩:=hv 13 (by omega)
     obtain⟨_,cs8,T8,x8,y8⟩:=hv 15 (by omega)
     rw[hblk]at x6 x7 x8
     cases x6;cases x7;cases x8
     exact zJN _ ds hz rfl hd y6 y7 y8
    rw[hds]at H2;simp only[fa,Nat.reduceAdd];rw[v0,v1,v2,v3,v4,v5,v6,v7,v8,v9,v10,v12,v14];clear hv v0 v1 v2 v3 v4 v5 v6 v7 v8 v9 v10 v12 v14 hlk hrel H hS hblk hds hd hz;have H:=H2;clear H2;simp only[pl]
    by_cases hh:d.hi = -1
    ·have dh:(d.hi == -1)=true:=by rw[beq_iff_eq];exact hh
     have HH:=Lib.hid hh;clear hh
     go_wp2_with (first|((with_reducible refine kg 1 ?_);(first|refine kA 1 H ?_|refine kS 1 H ?_|refine kB 1 H ?_);clear H;intro b1 w H;try simp only[nr]at H)|((with_reducible refine kg 3 ?_);(first|refine kA 3 H ?_|refine kS 3 H ?_|refine kB 3 H ?_);clear H;intro b3 w H;try simp only[nr]at H)|((with_reducible refine gL ?_);refine aG H ?_))
     have EB:=Lib.hid (show zDA d={kind:=d.kind,lo:=A0,hi:=B0,lazy:=d.lazy} by have hk:=HK.out;have hA:=HAB.out.1;have hB:=HAB.out.2;unfold zDA;rw[if_neg (by omega),if_pos hk,hA,hB,if_pos HH.out])
     have EK:=Lib.hid (show zDy d n=1 by have hk:=HK.out;unfold zDy;rw[if_neg (by omega),if_pos (by omega)])
     go_wp2_with fail
     rw[← EB.out]at H
     (refine Met.intro ?_;go_step;exact⟨⟨_,rfl,rfl,rfl,rfl,by rw[EK.out];(first|rfl|(rw[if_pos (by omega)];rfl)|(rw[if_neg (by omega)];rfl))⟩,H⟩)
    have dh:(d.hi == -1)=false:=by rw[beq_eq_false_iff_ne];exact hh
    have HH:=Lib.hid hh;clear hh
    go_wp2_with (first|((with_reducible refine kg 1 ?_);(first|refine kA 1 H ?_|refine kS 1 H ?_|refine kB 1 H ?_);clear H;intro b1 w H;try simp only[nr]at H)|((with_reducible refine kg 3 ?_);(first|refine kA 3 H ?_|refine kS 3 H ?_|refine kB 3 H ?_);clear H;intro b3 w H;try simp only[nr]at H)|(first|((with_reducible refine gT ?_);(refine aO H ?_;clear H;intro w H;try simp only[nr]at H))|((with_reducible refine gL ?_);refine aG H ?_)))
    all_goals
     rw[zNI]at H;have EB:=(show zDA d={kind:=d.kind,lo:=A0,hi:=if B0<A0 then A0 else B0,lazy:=d.lazy} by have hk:=HK.out;have hA:=HAB.out.1;have hB:=HAB.out.2;unfold zDA;rw[if_neg (by omega),if_pos hk,hA,hB,if_neg HH.out])
     have EK:=Lib.hid (show zDy d n=1 by have hk:=HK.out;unfold zDy;rw[if_neg (by omega),if_pos (by omega)])
     (refine Met.intro ?_;go_step;exact⟨⟨_,rfl,rfl,rfl,rfl,by rw[EK.out];rfl⟩,(by rw[EB];exact H)⟩)
  have d6:(d.kind == 6)=false:=by rw[beq_eq_false_iff_ne];exact h6
  by_cases h7:d.kind=7
  ·have d7:(d.kind == 7)=true:=by rw[h7];rfl
   have HK:=Lib.hid h7;clear h3 h45 h6 h7
   go_upto_region 16 with (first|((with_reducible refine kg 1 ?_);(first|refine kA 1 H ?_|refine kS 1 H ?_|refine kB 1 H ?_);clear H;intro b1 w H;try simp only[nr]at H)|((with_reducible refine kg 3 ?_);(first|refine kA 3 H ?_|refine kS 3 H ?_|refine kB 3 H ?_);clear H;intro b3 w H;try simp only[nr]at H)|fail)
   refine wr_ 5 [fun v _=>v=pt b1 9,fun v _=>v=.int .i64 (d).group,fun v _=>v=.int .i64 (max d.group 1),fun v _=>v=.int .i64 (min (max d.group 1) 20),fun v _=>v=Value.int IntKind.i64 1] ?ob ?en
   case ob =>
    refine⟨?_,?_,?_,?_,?_,trivial⟩<;>intro A W h
    ·(have e1:A.eval (.tmp 1)=.pointer (some ⟨b1,0,none⟩):=h.f 1;refine zAA rfl ?_;simp only[execOp,e1];(simp[go_sem]<;>first|done|omega|(rw[IntKind.wrap_i64];omega)|(rw[IntKind.wrap_u8];omega)|(rw[IntKind.wrap_u64];omega)))
    ·exact zAA rfl (zAD rfl (h.d 0 58) (by first|(with_reducible exact zAC)|(with_reducible exact one_u8)|(with_reducible exact zA9)|(with_reducible exact one_str)|(with_reducible exact zAh)|(with_reducible exact one_u64)|(with_reducible exact zAz)) ((H.call h.below).cell (i:=0) .zero 9)) (by decide)
    ·exact zAA rfl (zEk rfl (h.d 1 59) rfl) (by decide)
    ·exact zAA rfl (zEh rfl (h.d 2 60) rfl) (by decide)
    ·exact zBm rfl rfl (rfl)
   case en =>
    intro vals W hbw hv _;simp only[fa,Nat.reduceAdd];rw[e_ hv 0,e_ hv 1,e_ hv 2,e_ hv 3,e_ hv 4];clear hv
    try simp only[pl]
    replace H:=H.call hbw
    go_wp2_with (first|((with_reducible refine kg 1 ?_);(first|refine kA 1 H ?_|refine kS 1 H ?_|refine kB 1 H ?_);clear H;intro b1 w H;try simp only[nr]at H)|((with_reducible refine kg 3 ?_);(first|refine kA 3 H ?_|refine kS 3 H ?_|refine kB 3 H ?_);clear H;intro b3 w H;try simp only[nr]at H)|((with_reducible refine gT ?_);(refine aO H ?_;clear H;intro w H;try simp only[nr]at H)))
    rw[zN0]at H;have EB:=Lib.hid (show zDA d={kind:=d.kind,group:=min (max d.group 1) 20} by have hk:=HK.out;unfold zDA;rw[if_neg (by omega),if_neg (by omega),if_pos hk])
    have EK:=Lib.hid (show zDy d n=1 by have hk:=HK.out;unfold zDy;rw[if_neg (by omega),if_pos (by omega)])
    rw[← EB.out]at H
    (refine Met.intro ?_;go_step;exact⟨⟨_,rfl,rfl,rfl,rfl,by rw[EK.out];(first|rfl|(rw[if_pos (by omega)];rfl)|(rw[if_neg (by omega)];rfl))⟩,H⟩)
  have d7:(d.kind == 7)=false:=by rw[beq_eq_false_iff_ne];exact h7
  have HK:=Lib.hid (And.intro h3 (And.intro h45 (And.intro h6 h7)));clear h3 h45 h6 h7
  go_wp2_with (first|((with_reducible refine kg 1 ?_);(first|refine kA 1 H ?_|refine kS 1 H ?_|refine kB 1 H ?_);clear H;intro b1 w H;try simp only[nr]at H)|((with_reducible refine kg 3 ?_);(first|refine kA 3 H ?_|refine kS 3 H ?_|refine kB 3 H ?_);clear H;intro b3 w H;try simp only[nr]at H)|((with_reducible refine gL ?_);refine aG H ?_))
  have EB:=Lib.hid (show zDA d={kind:=d.kind} by unfold zDA;rw[if_neg HK.out.1,if_neg HK.out.2.2.1,if_neg HK.out.2.2.2])
  have EK:=Lib.hid (show zDy d n=0 by have h1:=HK.out.2.2.1;have h2:=HK.out.2.2.2;unfold zDy;rw[if_neg HK.out.2.1,if_neg (by omega)])
  rw[← EB.out]at H
  (refine Met.intro ?_;go_step;exact⟨⟨_,rfl,rfl,rfl,rfl,by rw[EK.out];(first|rfl|(rw[if_pos (by omega)];rfl)|(rw[if_neg (by omega)];rfl))⟩,H⟩)
 case rest =>
  (rintro _ wc ⟨⟨t,rfl,ht,e1,e3,e4⟩,hcut⟩;have hl:=zP1 t ht;clear ht;obtain⟨u0,hl⟩:=hl;obtain⟨u1,hl⟩:=hl;obtain⟨u2,hl⟩:=hl;obtain⟨u3,hl⟩:=hl;obtain⟨u4,hl⟩:=hl;obtain⟨u5,hl⟩:=hl;obtain⟨u6,hl⟩:=hl;obtain⟨u7,hl⟩:=hl;obtain⟨u8,hl⟩:=hl;obtain⟨u9,hl⟩:=hl;obtain⟨u10,hl⟩:=hl;obtain⟨u11,hl⟩:=hl;obtain⟨u12,hl⟩:=hl;obtain⟨u13,hl⟩:=hl;obtain⟨u14,hl⟩:=hl;obtain⟨u15,hl⟩:=hl;obtain⟨u16,hl⟩:=hl;obtain⟨u17,hl⟩:=hl;obtain⟨u18,hl⟩:=hl;obtain⟨u19,hl⟩:=hl;obtain⟨u20,hl⟩:=hl;obtain⟨u21,hl⟩:=hl;obtain⟨u22,hl⟩:=hl;obtain⟨u23,hl⟩:=hl;obtain⟨u24,hl⟩:=hl;obtain⟨u25,hl⟩:=hl;obtain⟨u26,hl⟩:=hl;obtain⟨u27,hl⟩:=hl;obtain⟨u28,hl⟩:=hl;obtain⟨u29,hl⟩:=hl;obtain⟨u30,hl⟩:=hl;obtain⟨u31,hl⟩:=hl;obtain⟨u32,hl⟩:=hl;obtain⟨u33,hl⟩:=hl;obtain⟨u34,hl⟩:=hl;obtain⟨u35,hl⟩:=hl;obtain⟨u36,hl⟩:=hl;obtain⟨u37,hl⟩:=hl;obtain⟨u38,hl⟩:=hl;obtain⟨u39,hl⟩:=hl;obtain⟨u40,hl⟩:=hl;obtain⟨u41,hl⟩:=hl;obtain⟨u42,hl⟩:=hl;obtain⟨u43,hl⟩:=hl;obtain⟨u44,hl⟩:=hl;obtain⟨u45,hl⟩:=hl;obtain⟨u46,hl⟩:=hl;obtain⟨u47,hl⟩:=hl;obtain⟨u48,hl⟩:=hl;obtain⟨u49,hl⟩:=hl;obtain⟨u50,hl⟩:=hl;obtain⟨u51,hl⟩:=hl;obtain⟨u52,hl⟩:=hl;obtain⟨u53,hl⟩:=hl;obtain⟨u54,hl⟩:=hl;obtain⟨u55,hl⟩:=hl;obtain⟨u56,hl⟩:=hl;obtain⟨u57,hl⟩:=hl;obtain⟨u58,hl⟩:=hl;obtain⟨u59,hl⟩:=hl;obtain⟨u60,hl⟩:=hl;obtain⟨u61,hl⟩:=hl;obtain⟨u62,hl⟩:=hl;obtain⟨u63,hl⟩:=hl;obtain⟨u64,hl⟩:=hl;obtain⟨u65,hl⟩:=hl;obtain⟨u66,hl⟩:=hl;obtain⟨u67,hl⟩:=hl;obtain⟨u68,hl⟩:=hl;obtain⟨u69,hl⟩:=hl;obtain⟨u70,hl⟩:=hl;obtain⟨u71,hl⟩:=hl;obtain⟨u72,hl⟩:=hl;obtain⟨u73,hl⟩:=hl;obtain⟨u74,hl⟩:=hl;obtain⟨u75,hl⟩:=hl;obtain⟨u76,hl⟩:=hl;obtain⟨u77,hl⟩:=hl;obtain⟨u78,hl⟩:=hl;obtain⟨u79,hl⟩:=hl;obtain⟨u80,hl⟩:=hl;obtain⟨u81,hl⟩:=hl;obtain⟨u82,hl⟩:=hl;obtain⟨u83,hl⟩:=hl;obtain⟨u84,hl⟩:=hl;obtain⟨u85,hl⟩:=hl;obtain⟨u86,hl⟩:=hl;obtain⟨u87,hl⟩:=hl;obtain⟨u88,hl⟩:=hl;obtain⟨u89,hl⟩:=hl;obtain⟨u90,hl⟩:=hl;obtain⟨u91,hl⟩:=hl;obtain⟨u92,hl⟩:=hl;obtain⟨u93,hl⟩:=hl;obtain⟨u94,hl⟩:=hl;obtain⟨u95,hl⟩:=hl;obtain⟨u96,hl⟩:=hl;obtain⟨u97,hl⟩:=hl;obtain⟨u98,hl⟩:=hl;obtain⟨u99,hl⟩:=hl;obtain⟨u100,hl⟩:=hl;obtain⟨u101,hl⟩:=hl;obtain⟨u102,hl⟩:=hl;obtain⟨u103,hl⟩:=hl;obtain⟨u104,hl⟩:=hl;obtain⟨u105,hl⟩:=hl;obtain⟨u106,hl⟩:=hl;obtain⟨u107,hl⟩:=hl;obtain⟨u108,hl⟩:=hl;obtain⟨u109,hl⟩:=hl;obtain⟨u110,hl⟩:=hl;obtain⟨u111,hl⟩:=hl;obtain⟨u112,hl⟩:=hl;obtain⟨u113,hl⟩:=hl;subst hl;(replace e1:some u1=some (.pointer (some ⟨b1,0,none⟩)):=e1);(cases e1);(replace e3:some u3=some (.pointer (some ⟨b3,0,none⟩)):=e3);(cases e3);(replace e4:some u4=some (.int .i64 (zDy d n)):=e4);(cases e4))
  clear H;have H:=hcut;clear hcut;obtain⟨bd,hbd⟩:∃ bd:NodeD,zDA d=bd:=⟨_,rfl⟩;rw[hbd]at H;obtain⟨K,hK⟩:∃ K:Int,zDy d n=K:=⟨_,rfl⟩;rw[hK];have HB:=Lib.hid (And.intro hbd hK);clear hbd hK
  go_upto_region 17 with fail
  refine ws_ 34 [fun v _=>v=Value.pointer (some ⟨b1,1,none⟩),fun v _=>v=setV (d.set),fun v _=>v=Value.pointer (some ⟨b3,1,none⟩),fun v _=>v=setV (bd.set),fun v _=>v=Value.bool (eqS (d.set) (bd.set)),fun v _=>v=Value.bool (eqS (d.set) (bd.set)),fun v _=>v=iT (true) (eqS (d.set) (bd.set)) true (.pointer (some ⟨b1,6,none⟩)),fun v _=>v=iT (true) (eqS (d.set) (bd.set)) true (.int .i64 (d.lo)),fun v _=>v=iT (true) (eqS (d.set) (bd.set)) true (.pointer (some ⟨b3,6,none⟩)),fun v _=>v=iT (true) (eqS (d.set) (bd.set)) true (.int .i64 (bd.lo)),fun v _=>v=iT (true) (eqS (d.set) (bd.set)) true (.bool ((d.lo) == (bd.lo))),fun v _=>v=Value.bool ((eqS (d.set) (bd.set))&&((d.lo) == (bd.lo))),fun v _=>v=Value.bool ((eqS (d.set) (bd.set))&&((d.lo) == (bd.lo))),fun v _=>v=iT (true) ((eqS (d.set) (bd.set))&&((d.lo) == (bd.lo))) true (.pointer (some ⟨b1,7,none⟩)),fun v _=>v=iT (true) ((eqS (d.set) (bd.set))&&((d.lo) == (bd.lo))) true (.int .i64 (d.hi)),fun v _=>v=iT (true) ((eqS (d.set) (bd.set))&&((d.lo) == (bd.lo))) true (.pointer (some ⟨b3,7,none⟩)),fun v _=>v=iT (true) ((eqS (d.set) (bd.set))&&((d.lo) == (bd.lo))) true (.int .i64 (bd.hi)),fun v _=>v=iT (true) ((eqS (d.set) (bd.set))&&((d.lo) == (bd.lo))) true (.bool ((d.hi) == (bd.hi))),fun v _=>v=Value.bool (((eqS (d.set) (bd.set))&&((d.lo) == (bd.lo)))&&((d.hi) == (bd.hi))),fun v _=>v=Value.bool (((eqS (d.set) (bd.set))&&((d.lo) == (bd.lo)))&&((d.hi) == (bd.hi))),fun v _=>v=iT (true) (((eqS (d.set) (bd.set))&&((d.lo) == (bd.lo)))&&((d.hi) == (bd.hi))) true (.pointer (some ⟨b1,8,none⟩)),fun v _=>v=iT (true) (((eqS (d.set) (bd.set))&&((d.lo) == (bd.lo)))&&((d.hi) == (bd.hi))) true (.bool (d.lazy)),fun v _=>v=iT (true) (((eqS (d.set) (bd.set))&&((d.lo) == (bd.lo)))&&((d.hi) == (bd.hi))) true (.pointer (some ⟨b3,8,none⟩)),fun v _=>v=iT (true) (((eqS (d.set) (bd.set))&&((d.lo) == (bd.lo)))&&((d.hi) == (bd.hi))) true (.bool (bd.lazy)),fun v _=>v=iT (true) (((eqS (d.set) (bd.set))&&((d.lo) == (bd.lo)))&&((d.hi) == (bd.hi))) true (.bool ((d.lazy) == (bd.lazy))),fun v _=>v=Value.bool ((((eqS (d.set) (bd.set))&&((d.lo) == (bd.lo)))&&((d.hi) == (bd.hi)))&&((d.lazy) == (bd.lazy))),fun v _=>v=Value.bool ((((eqS (d.set) (bd.set))&&((d.lo) == (bd.lo)))&&((d.hi) == (bd.hi)))&&((d.lazy) == (bd.lazy))),fun v _=>v=iT (true) ((((eqS (d.set) (bd.set))&&((d.lo) == (bd.lo)))&&((d.hi) == (bd.hi)))&&((d.lazy) == (bd.lazy))) true (.pointer (some ⟨b1,9,none⟩)),fun v _=>v=iT (true) ((((eqS (d.set) (bd.set))&&((d.lo) == (bd.lo)))&&((d.hi) == (bd.hi)))&&((d.lazy) == (bd.lazy))) true (.int .i64 (d.group)),fun v _=>v=iT (true) ((((eqS (d.set) (bd.set))&&((d.lo) == (bd.lo)))&&((d.hi) == (bd.hi)))&&((d.lazy) == (bd.lazy))) true (.pointer (some ⟨b3,9,none⟩)),fun v _=>v=iT (true) ((((eqS (d.set) (bd.set))&&((d.lo) == (bd.lo)))&&((d.hi) == (bd.hi)))&&((d.lazy) == (bd.lazy))) true (.int .i64 (bd.group)),fun v _=>v=iT (true) ((((eqS (d.set) (bd.set))&&((d.lo) == (bd.lo)))&&((d.hi) == (bd.hi)))&&((d.lazy) == (bd.lazy))) true (.bool ((d.group) == (bd.group))),fun v _=>v=Value.bool (((((eqS (d.set) (bd.set))&&((d.lo) == (bd.lo)))&&((d.hi) == (bd.hi)))&&((d.lazy) == (bd.lazy)))&&((d.group) == (bd.group))),fun v _=>v=Value.bool (((((eqS (d.set) (bd.set))&&((d.lo) == (bd.lo)))&&((d.hi) == (bd.hi)))&&((d.lazy) == (bd.lazy)))&&((d.group) == (bd.group)))] ?ob ?en
  case ob =>
   refine⟨?_,?_,?_,?_,?_,?_,?_,?_,?_,?_,?_,?_,?_,?_,?_,?_,?_,?_,?_,?_,?_,?_,?_,?_,?_,?_,?_,?_,?_,?_,?_,?_,?_,?_,trivial⟩<;>intro A W h
   ·exact zAA rfl ((by have e:A.eval (.tmp 1)=Value.pointer (some ⟨b1,0,none⟩):=h.f 1;simp only[execOp,e];simp[go_sem]))
   ·exact zAA rfl (zAb rfl (h.d 0 63) zBY rfl (fun j hj=>by have h1:=(H.call h.below).cell (i:=0) .zero (1+j);rcases j with _|_|_|_|j<;>first|exact h1|omega))
   ·exact zAA rfl ((by have e:A.eval (.tmp 3)=Value.pointer (some ⟨b3,0,none⟩):=h.f 3;simp only[execOp,e];simp[go_sem]))
   ·exact zAA rfl (zAb rfl (h.d 2 65) zBY rfl (fun j hj=>by have h1:=(H.call h.below).cell (i:=1) i_1 (1+j);rcases j with _|_|_|_|j<;>first|exact h1|omega))
   ·exact zAA rfl ((zOl rfl (h.d 1 64) (h.d 3 66)))
   ·exact zAA rfl (zEK (.inl rfl) (h.d 4 67))
   ·refine sy_ (h.d 5 68) fun hC=>?_;exact(by have e:A.eval (.tmp 1)=Value.pointer (some ⟨b1,0,none⟩):=h.f 1;simp only[execOp,e];simp[go_sem])
   ·refine sy_ (h.d 5 68) fun hC=>?_;exact zAD rfl (zBG (h.d 6 69) hC) zAC ((H.call h.below).cell (i:=0) .zero 6)
   ·refine sy_ (h.d 5 68) fun hC=>?_;exact(by have e:A.eval (.tmp 3)=Value.pointer (some ⟨b3,0,none⟩):=h.f 3;simp only[execOp,e];simp[go_sem])
   ·refine sy_ (h.d 5 68) fun hC=>?_;exact zAD rfl (zBG (h.d 8 71) hC) zAC ((H.call h.below).cell (i:=1) i_1 6)
   ·refine sy_ (h.d 5 68) fun hC=>?_;exact(by have e70:A.eval (.tmp 70)=Value.int .i64 (d.lo):=zBG (h.d 7 70) hC;have e72:A.eval (.tmp 72)=Value.int .i64 (bd.lo):=zBG (h.d 9 72) hC;simp only[execOp,e70,e72];simp[go_sem])
   ·exact zAA rfl (zFD rfl (h.d 5 68) (fun hb2=>zBG (h.d 10 73) (by (first|(rw[hb2];rfl)|simp[hb2]))))
   ·exact zAA rfl (zEK (.inl rfl) (h.d 11 74))
   ·refine sy_ (h.d 12 75) fun hC=>?_;exact(by have e:A.eval (.tmp 1)=Value.pointer (some ⟨b1,0,none⟩):=h.f 1;simp only[execOp,e];simp[go_sem])
   ·refine sy_ (h.d 12 75) fun hC=>?_;exact zAD rfl (zBG (h.d 13 76) hC) zAC ((H.call h.below).cell (i:=0) .zero 7)
   ·refine sy_ (h.d 12 75) fun hC=>?_;exact(by have e:A.eval (.tmp 3)=Value.pointer (some ⟨b3,0,none⟩):=h.f 3;simp only[execOp,e];simp[go_sem])
   ·refine sy_ (h.d 12 75) fun hC=>?_;exact zAD rfl (zBG (h.d 15 78) hC) zAC ((H.call h.below).cell (i:=1) i_1 7)
   ·refine sy_ (h.d 12 75) fun hC=>?_;exact(by have e77:A.eval (.tmp 77)=Value.int .i64 (d.hi):=zBG (h.d 14 77) hC;have e79:A.eval (.tmp 79)=Value.int .i64 (bd.hi):=zBG (h.d 16 79) hC;simp only[execOp,e77,e79];simp[go_sem])
   ·exact zAA rfl (zFD rfl (h.d 12 75) (fun hb2=>zBG (h.d 17 80) (by (first|(rw[hb2];rfl)|simp[hb2]))))
   ·exact zAA rfl (zEK (.inl rfl) (h.d 18 81))
   ·refine sy_ (h.d 19 82) fun hC=>?_;exact(by have e:A.eval (.tmp 1)=Value.pointer (some ⟨b1,0,none⟩):=h.f 1;simp only[execOp,e];simp[go_sem])
   ·refine sy_ (h.d 19 82) fun hC=>?_;exact zAD rfl (zBG (h.d 20 83) hC) zA9 ((H.call h.below).cell (i:=0) .zero 8)
   ·refine sy_ (h.d 19 82) fun hC=>?_;exact(by have e:A.eval (.tmp 3)=Value.pointer (some ⟨b3,0,none⟩):=h.f 3;simp only[execOp,e];simp[go_sem])
   ·refine sy_ (h.d 19 82) fun hC=>?_;exact zAD rfl (zBG (h.d 22 85) hC) zA9 ((H.call h.below).cell (i:=1) i_1 8)
   ·refine sy_ (h.d 19 82) fun hC=>?_;exact(by have e84:A.eval (.tmp 84)=Value.bool (d.lazy):=zBG (h.d 21 84) hC;have e86:A.eval (.tmp 86)=Value.bool (bd.lazy):=zBG (h.d 23 86) hC;simp only[execOp,e84,e86];generalize (d.lazy)=bp;generalize (bd.lazy)=bq;cases bp<;>cases bq<;>simp[go_sem])
   ·exact zAA rfl (zFD rfl (h.d 19 82) (fun hb2=>zBG (h.d 24 87) (by (first|(rw[hb2];rfl)|simp[hb2]))))
   ·exact zAA rfl (zEK (.inl rfl) (h.d 25 88))
   ·refine sy_ (h.d 26 89) fun hC=>?_;exact(by have e:A.eval (.tmp 1)=Value.pointer (some ⟨b1,0,none⟩):=h.f 1;simp only[execOp,e];simp[go_sem])
   ·refine sy_ (h.d 26 89) fun hC=>?_;exact zAD rfl (zBG (h.d 27 90) hC) zAC ((H.call h.below).cell (i:=0) .zero 9)
   ·refine sy_ (h.d 26 89) fun hC=>?_;exact(by have e:A.eval (.tmp 3)=Value.pointer (some ⟨b3,0,none⟩):=h.f 3;simp only[execOp,e];simp[go_sem])
   ·refine sy_ (h.d 26 89) fun hC=>?_;exact zAD rfl (zBG (h.d 29 92) hC) zAC ((H.call h.below).cell (i:=1) i_1 9)
   ·refine sy_ (h.d 26 89) fun hC=>?_;exact(by have e91:A.eval (.tmp 91)=Value.int .i64 (d.group):=zBG (h.d 28 91) hC;have e93:A.eval (.tmp 93)=Value.int .i64 (bd.group):=zBG (h.d 30 93) hC;simp only[execOp,e91,e93];simp[go_sem])
   ·exact zAA rfl (zFD rfl (h.d 26 89) (fun hb2=>zBG (h.d 31 94) (by (first|(rw[hb2];rfl)|simp[hb2]))))
   ·exact zAA rfl (zEK (.inr rfl) (h.d 32 95))
  case en =>
   intro vals W hbw hv _;have v33:vals 33=_:=hv 33 (by omega)
   simp only[fa,Nat.reduceAdd];rw[v33];clear hv v33
   try simp only[pl]
   replace H:=H.call hbw;clear hbw;obtain⟨q5,hq5⟩:∃ q:Bool,(((((eqS (d.set) (bd.set))&&((d.lo) == (bd.lo)))&&((d.hi) == (bd.hi)))&&((d.lazy) == (bd.lazy)))&&((d.group) == (bd.group)))=q:=⟨_,rfl⟩;rw[hq5];have HQ:=Lib.hid hq5;clear hq5
   go_upto_region 18 with fail
   refine wr_ 19 [fun v _=>v=Value.bool (q5),fun v _=>v=Value.bool (q5),fun v _=>v=iT (true) (q5) true (.pointer (some ⟨b1,5,none⟩)),fun v _=>v=iT (true) (q5) true ((.slice p n c)),fun v _=>v=iT (true) (q5) true (.int .i64 ((n:Int))),fun v _=>v=iT (true) (q5) true (.int .i64 (K)),fun v _=>v=iT (true) (q5) true (.bool (((n:Int)) == (K))),fun v _=>v=Value.bool ((q5)&&(((n:Int)) == (K))),fun v _=>v=Value.bool ((q5)&&(((n:Int)) == (K))),fun v _=>v=iT (true) ((q5)&&(((n:Int)) == (K))) true (.pointer (some ⟨b1,0,none⟩)),fun v _=>v=iT (true) ((q5)&&(((n:Int)) == (K))) true (.int .i64 (d.kind)),fun v _=>v=iT (true) ((q5)&&(((n:Int)) == (K))) true (.bool ((d.kind) == (3))),fun v _=>v=iT (true) ((q5)&&(((n:Int)) == (K))) true (.pointer (some ⟨b1,1,none⟩)),fun v _=>v=iT (true) ((q5)&&(((n:Int)) == (K))) true (setV (d.set)),fun v _=>v=iT (true) ((q5)&&(((n:Int)) == (K))) true (setV (zAN)),fun v _=>v=iT (true) ((q5)&&(((n:Int)) == (K))) true (.bool (!(eqS (d.set) (zAN)))),fun v _=>v=iT (true) ((q5)&&(((n:Int)) == (K))) true (.bool (((d.kind) == (3)) == (!(eqS (d.set) (zAN))))),fun v _=>v=Value.bool (((q5)&&(((n:Int)) == (K)))&&(((d.kind) == (3)) == (!(eqS (d.set) (zAN))))),fun v _=>v=Value.bool (((q5)&&(((n:Int)) == (K)))&&(((d.kind) == (3)) == (!(eqS (d.set) (zAN)))))] ?ob ?en
   case ob =>
    refine⟨?_,?_,?_,?_,?_,?_,?_,?_,?_,?_,?_,?_,?_,?_,?_,?_,?_,?_,?_,trivial⟩<;>intro A W h
    ·exact zAA rfl (zEK (.inl rfl) (h.f 5))
    ·exact zAA rfl (zEK (.inl rfl) (h.d 0 96))
    ·refine sy_ (h.d 1 97) fun hC=>?_;exact(by have e:A.eval (.tmp 1)=Value.pointer (some ⟨b1,0,none⟩):=h.f 1;simp only[execOp,e];simp[go_sem])
    ·refine sy_ (h.d 1 97) fun hC=>?_;exact zAD rfl (zBG (h.d 2 98) hC) (by decide +kernel) ((H.call h.below).cell (i:=0) .zero 5)
    ·refine sy_ (h.d 1 97) fun hC=>?_;exact(zNS Tryz.underlying26 rfl (zBG (h.d 3 99) hC))
    ·refine sy_ (h.d 1 97) fun hC=>?_;exact zEK (.inl rfl) (h.f 4)
    ·refine sy_ (h.d 1 97) fun hC=>?_;exact(by have e100:A.eval (.tmp 100)=Value.int .i64 ((n:Int)):=zBG (h.d 4 100) hC;have e101:A.eval (.tmp 101)=Value.int .i64 (K):=zBG (h.d 5 101) hC;simp only[execOp,e100,e101];simp[go_sem])
    ·exact zAA rfl (zFD rfl (h.d 1 97) (fun hb2=>zBG (h.d 6 102) (by (first|(rw[hb2];rfl)|simp[hb2]))))
    ·exact zAA rfl (zEK (.inl rfl) (h.d 7 103))
    ·refine sy_ (h.d 8 104) fun hC=>?_;exact(by have e:A.eval (.tmp 1)=Value.pointer (some ⟨b1,0,none⟩):=h.f 1;simp only[execOp,e];simp[go_sem])
    ·refine sy_ (h.d 8 104) fun hC=>?_;exact zAD rfl (zBG (h.d 9 105) hC) zAh ((H.call h.below).cell (i:=0) .zero 0)
    ·refine sy_ (h.d 8 104) fun hC=>?_;exact(by have e106:A.eval (.tmp 106)=Value.int .i64 (d.kind):=zBG (h.d 10 106) hC;simp only[execOp,e106];simp[go_sem])
    ·refine sy_ (h.d 8 104) fun hC=>?_;exact(by have e:A.eval (.tmp 1)=Value.pointer (some ⟨b1,0,none⟩):=h.f 1;simp only[execOp,e];simp[go_sem])
    ·refine sy_ (h.d 8 104) fun hC=>?_;exact zAb rfl (zBG (h.d 12 108) hC) zBY rfl (fun j hj=>by have h1:=(H.call h.below).cell (i:=0) .zero (1+j);rcases j with _|_|_|_|j<;>first|exact h1|omega)
    ·refine sy_ (h.d 8 104) fun hC=>?_;exact zJz rfl
    ·refine sy_ (h.d 8 104) fun hC=>?_;exact(zLr rfl (zBG (h.d 13 109) hC) (zBG (h.d 14 110) hC))
    ·refine sy_ (h.d 8 104) fun hC=>?_;exact(by have e107:A.eval (.tmp 107)=Value.bool ((d.kind) == (3)):=zBG (h.d 11 107) hC;have e111:A.eval (.tmp 111)=Value.bool (!(eqS (d.set) (zAN))):=zBG (h.d 15 111) hC;simp only[execOp,e107,e111];generalize ((d.kind) == (3))=bp;generalize (!(eqS (d.set) (zAN)))=bq;cases bp<;>cases bq<;>simp[go_sem])
    ·exact zAA rfl (zFD rfl (h.d 8 104) (fun hb2=>zBG (h.d 16 112) (by (first|(rw[hb2];rfl)|simp[hb2]))))
    ·exact zAA rfl (zEK (.inr rfl) (h.d 17 113))
   case en =>
    intro vals W hbw hv _;have v18:vals 18=_:=hv 18 (by omega)
    simp only[fa,Nat.reduceAdd];rw[v18];clear hv v18
    try simp only[pl]
    replace H:=H.call hbw
    go_wp2_with fail
    go_ret;refine⟨?_,H.below⟩;refine retb ?_
    rw[← HQ.out,← HB.out.1,← HB.out.2];exact zMU d n HR.out
end
section
open Go.RowKit
def zCq (d:NodeD) (l:List Tree):Option Tree:=if 1+zAF l<=4000 then some (.mk d l) else none
def rowQ (k o:Int) (l:List Tree):Option Tree:=match l with
 | []=>some (zBs o)
 | [t]=>some t
 | _=>zCq {kind:=k} l
def catQ (l:List Tree):Option Tree:=if l.any (fun t=>t.d.kind == 2) then some (zBs 2) else rowQ 4 1 (zBK l 4 1)
def zEO (n:NodeD) (m:Int) (k:Tree):Option Tree:=zCq {kind:=6,hi:=m,lazy:=n.lazy} [k]
def zEW (n:NodeD) (k:Tree):Nat->Option (List Tree)
 | 0=>some []
 | m+1=>match zEW n k m with
  | none=>none
  | some r=>match catQ (k::r) with
   | none=>none
   | some c=>match zEO n 1 c with|none=>none|some a=>some [a]
def zBU (n:NodeD) (k:Tree):Option Tree :=
 if n.hi=0\/k.d.kind=1\/k.d.kind=2/\n.lo=0 then some (zBs 1)
 else if k.d.kind=2 then some (zBs 2)
 else if 4000<(zAB k:Int) * max n.lo n.hi then none
 else if n.hi<0 then
  match zEO n (-1) k with
  | none=>none
  | some a=>catQ (List.replicate n.lo.toNat k++[a])
 else match zEW n k (n.hi - n.lo).toNat with
  | none=>none
  | some r=>catQ (List.replicate n.lo.toNat k++r)
def zE9 (d:NodeD) (t:Tree) (l:List Tree):Option Tree :=
 if d.kind=7 then (match l with|[]=>none|k::_=>if k.d.kind=2 then some (zBs 2) else zCq d l)
 else if d.kind=4 then catQ l
 else if d.kind=5 then rowQ 5 2 (zBK l 5 2)
 else if d.kind=6 then (match l with|[]=>none|k::_=>zBU d k)
 else some t
theorem zHW {d:NodeD} {l:List Tree} (h:zCq d l=none):4000<zAB (.mk d l):=by
 unfold zCq at h;split at h
 ·cases h
 ·simp only[zAB];omega
theorem zHi {d:NodeD} {l:List Tree} {t:Tree} (h:zCq d l=some t):t=.mk d l:=by
 unfold zCq at h;split at h
 ·cases h;rfl
 ·cases h
theorem zMw {k o:Int} {l:List Tree} {t:Tree} (h:rowQ k o l=some t):rowN k l (zBs o)=t:=by
 unfold rowQ at h;unfold rowN;split at h
 ·cases h;rfl
 ·cases h;rfl
 ·rename_i h1 h2;have:=zHi h;subst this;split
  ·exact absurd rfl h1
  ·exact absurd rfl (h2 _)
  ·rfl
theorem zLQ {k o:Int} {l:List Tree} (h:rowQ k o l=none):4000<zAB (rowN k l (zBs o)):=by
 unfold rowQ at h;unfold rowN;split at h
 ·cases h
 ·cases h
 ·rename_i h1 h2;have:=zHW h;split
  ·exact absurd rfl h1
  ·exact absurd rfl (h2 _)
  ·exact this
theorem zE6 {l:List Tree} {t:Tree} (h:catQ l=some t):catT l=t:=by
 unfold catQ at h;unfold catT;split at h
 ·rename_i h1;rw[if_pos h1];cases h;rfl
 ·rename_i h1;rw[if_neg h1];exact zMw h
theorem zHl {l:List Tree} (h:catQ l=none):4000<zAB (catT l):=by
 unfold catQ at h;unfold catT;split at h
 ·cases h
 ·rename_i h1;rw[if_neg h1];exact zLQ h
theorem zGS {n:NodeD} {m:Int} {k a:Tree} (h:zEO n m k=some a):a=zC9 n k m:=zHi h
theorem zHw {n:NodeD} {m:Int} {k:Tree} (h:zEO n m k=none):4000<zAB (zC9 n k m):=zHW h
theorem zLx (k:Int) (l:List Tree) (d:Tree):zAF l<=zAB (rowN k l d):=by
 unfold rowN;split
 ·simp[zAF]
 ·rw[zAx];exact Nat.le_refl _
 ·simp only[zAB];omega
theorem zGA {a b:List Tree} (hn:(a++b).any (fun t=>t.d.kind == 2)=false) (hb:∀ t ∈ b,t.d.kind≠4/\t.d.kind≠1):zAF b<=zAB (catT (a++b)):=by
 unfold catT;rw[hn];simp only[Bool.false_eq_true,if_false];refine Nat.le_trans ?_ (zLx 4 _ _);have hf:zBK b 4 1=b:=by
  unfold zBK
  induction b with
  | nil=>rfl
  | cons t r ih =>
   have h1:=hb t (List.mem_cons_self ..);rw[List.flatMap_cons,ih ?_ (fun t ht=>hb t (List.mem_cons_of_mem _ ht))]
   ·unfold zDz;rw[if_neg h1.1,if_neg h1.2];rfl
   ·simp only[List.any_append,List.any_cons,Bool.or_eq_false_iff]at hn ⊢;exact⟨hn.1,hn.2.2⟩
 have he:zBK (a++b) 4 1=zBK a 4 1++b:=by
  conv=>rhs;rw[← hf]
  unfold zBK;rw[List.flatMap_append]
 rw[he,zAZ];omega
theorem zF0 (n:NodeD) (k:Tree):∀ m,∀ t ∈ zCi n k m,t.d.kind=6
 | 0,t,h=>by simp[zCi]at h
 | m+1,t,h=>by
  simp only[zCi,List.mem_singleton]at h;subst h;rfl
theorem zKA {n:NodeD} {k:Tree} (hk:k.d.kind≠2) (m:Nat) (a:List Tree) (ha:∀ t ∈ a,t=k):(a++zCi n k m).any (fun t=>t.d.kind == 2)=false:=by
 rw[List.any_eq_false];intro t ht;rcases List.mem_append.1 ht with h|h
 ·rw[ha t h];simpa using hk
 ·rw[zF0 n k m t h];decide
theorem zLZ {n:NodeD} {k:Tree} (hk:k.d.kind≠2) (m:Nat):zAB (catT (k::zCi n k m))+1=zAF (zCi n k (m+1))/\zAF (zCi n k m)<=zAB (catT (k::zCi n k m)):=by
 refine⟨by simp only[zCi];rw[zAx,zGx];omega,?_⟩
 exact zGA (a:=[k]) (zKA hk m [k] (by simp)) (fun t ht=>by rw[zF0 n k m t ht];decide)
theorem zFh {n:NodeD} {k:Tree}:∀ {m:Nat} {r:List Tree},zEW n k m=some r->r=zCi n k m
 | 0,r,h=>by cases h;rfl
 | m+1,r,h=>by
  simp only[zEW]at h;split at h
  ·cases h
  ·rename_i r0 hr;split at h
   ·cases h
   ·rename_i c hc;split at h
    ·cases h
    ·rename_i a ha
     cases h
     rw[zFh hr]at hc;simp only[zCi];rw[zGS ha,zE6 hc]
theorem zJy {n:NodeD} {k:Tree} (hk:k.d.kind≠2):∀ {m:Nat},zEW n k m=none->4000<zAF (zCi n k m)
 | 0,h=>by cases h
 | m+1,h=>by
  have hg:=zLZ (n:=n) hk m;simp only[zEW]at h;split at h
  ·rename_i hr;have:=zJy (n:=n) hk hr;omega
  ·rename_i r0 hr;rw[zFh hr]at h;split at h
   ·rename_i hc;have:=zHl hc;omega
   ·rename_i c hc;split at h
    ·rename_i ha;have:=zHw ha;rw[← zE6 hc,zGx]at this;omega
    ·cases h
theorem zKx {n:NodeD} {k s:Tree} (hs:zAB k<=2000) (h:zBU n k=some s):zC7 n k=some s:=by
 unfold zBU at h;unfold zC7;split at h
 ·rename_i h1;rw[if_pos h1];cases h;rfl
 rename_i h1;rw[if_neg h1];split at h
 ·rename_i h2;rw[if_pos h2];cases h;rfl
 rename_i h2;rw[if_neg h2];split at h
 ·cases h
 rename_i h3;have h4:¬ (4000<(zAB k:Int) * max (max n.lo n.hi) 1):=by
  by_cases hm:max n.lo n.hi<=1
  ·rw[Int.max_eq_right hm];omega
  ·rw[Int.max_eq_left (by omega)];exact h3
 rw[if_neg h4];split at h
 ·rename_i h5;rw[if_pos h5];split at h
  ·cases h
  ·rename_i a ha;rw[zGS ha]at h;rw[zE6 h]
 ·rename_i h5;rw[if_neg h5];split at h
  ·cases h
  ·rename_i r hr;rw[zFh hr]at h;rw[zE6 h]
theorem zCG {t:Tree} (h:2000<zAB t):capT (some t)=none:=by
 unfold capT;simp only;rw[if_neg (by omega)]
theorem zKI {n:NodeD} {k:Tree} (h:zBU n k=none):capT (zC7 n k)=none:=by
 unfold zBU at h;unfold zC7;split at h
 ·cases h
 rename_i h1;rw[if_neg h1];split at h
 ·cases h
 rename_i h2;rw[if_neg h2];split
 ·rfl
 rename_i h4;split at h
 ·rename_i h3;exact absurd (Int.lt_of_lt_of_le h3 (Int.mul_le_mul_of_nonneg_left (Int.le_max_left ..) (by omega))) h4
 split at h
 ·rename_i h5;rw[if_pos h5];split at h
  ·rename_i ha;have hsz:=zHw ha;refine zCG ?_
   have:=zGA (a:=List.replicate n.lo.toNat k) (b:=[zC9 n k (-1)]) (by
    rw[List.any_eq_false];intro t ht;rcases List.mem_append.1 ht with h|h
    ·rw[List.eq_of_mem_replicate h];simpa using h2
    ·rw[List.mem_singleton]at h;subst h;exact(by decide:¬ ((6:Int) == 2)=true)) (fun t ht=>by rw[List.mem_singleton]at ht;subst ht;exact(by decide:(6:Int)≠4/\(6:Int)≠1))
   rw[zAx]at this;omega
  ·rename_i a ha;rw[zGS ha]at h;have:=zHl h;exact zCG (by omega)
 ·rename_i h5;rw[if_neg h5];split at h
  ·rename_i hr;have hsz:=zJy h2 hr;refine zCG ?_
   have:=zGA (a:=List.replicate n.lo.toNat k) (b:=zCi n k (n.hi - n.lo).toNat) (zKA h2 _ _ fun t ht=>List.eq_of_mem_replicate ht) (fun t ht=>by rw[zF0 n k _ t ht];decide)
   omega
  ·rename_i r hr;rw[zFh hr]at h;have:=zHl h;exact zCG (by omega)
theorem zN4 {d:NodeD} {t:Tree} {l:List Tree} (hl:∀ x ∈ l,zAB x<=2000):capT (zE9 d t l)=capT (zKO d t l):=by
 unfold zE9 zKO;split
 ·cases l with
  | nil=>rfl
  | cons k r =>
   simp only;split
   ·rfl
   ·cases h:zCq d (k::r) with
    | none=>rw[zCG (t:=.mk d (k::r)) (by have:=zHW h;omega)];rfl
    | some s=>rw[zHi h]
 split
 ·cases h:catQ l with
  | none=>rw[zCG (by have:=zHl h;omega)];rfl
  | some s=>rw[zE6 h]
 split
 ·cases h:rowQ 5 2 (zBK l 5 2) with
  | none=>rw[zCG (by have:=zLQ h;omega)];rfl
  | some s=>rw[zMw h]
 split
 ·cases l with
  | nil=>rfl
  | cons k r =>
   simp only
   cases h:zBU d k with
   | none=>rw[zKI h];rfl
   | some s=>rw[zKx (hl k (List.mem_cons_self ..)) h]
 ·rfl
theorem zEV:∀ {ts l:List Tree},zAc ts=some l->∀ x ∈ l,zAB x<=2000
 | [],l,h,x,hx=>by simp[zAc]at h;subst h;cases hx
 | u::r,l,h,x,hx=>by
  simp only[zAc]at h;split at h
  ·cases h
  ·rename_i y hy;split at h
   ·cases h
   ·rename_i l' hl
    cases h
    rcases List.mem_cons.1 hx with rfl|hx
    ·exact zED hy
    ·exact zEV hl x hx
end
end Go.Proofs.YtalggmbdpmdcbaaGreat
