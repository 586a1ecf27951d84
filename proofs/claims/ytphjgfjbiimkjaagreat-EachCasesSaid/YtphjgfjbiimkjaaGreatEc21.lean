/-
  Laws of walks, and walks.
-/
import Derived.Test.YtphjgfjbiimkjaaGreatEc20
import Derived.Laws.Append
import Derived.Laws.MakeOwn
import Derived.Laws.IdiomStrings
import Derived.Maps.AppendAt
set_option linter.unusedVariables false
set_option linter.unusedSimpArgs false
set_option maxRecDepth 100000
set_option maxHeartbeats 16000000
namespace Go.Proofs.YtphjgfjbiimkjaaGreat
section
open Go.RowKit
theorem zAJ {α:Type} {b:Bool} {x:Option α} {r:α}:(cond b x none=some r)↔(b=true/\x=some r):=by cases b<;>simp
section
variable {m:NM}
theorem VR.ptr_inv {b off:Nat} {v:Value} (h:VR m (.pointer (some ⟨b,off,none⟩)) v):∃ b' r,v=.pointer (some ⟨b',off,none⟩)/\m b=some (b',r):=by cases h with|ptr h=>exact⟨_,_,rfl,h⟩
theorem VR.int_inv {k:IntKind} {n:Int} {v:Value} (h:VR m (.int k n) v):v=.int k n:=by cases h;rfl
theorem VR.bool_inv {b:Bool} {v:Value} (h:VR m (.bool b) v):v=.bool b:=by cases h;rfl
theorem VR.string_inv {s:ByteArray} {v:Value} (h:VR m (.string s) v):v=.string s:=by cases h;rfl
theorem VR.slice_inv {b off n c:Nat} {v:Value} (h:VR m (.slice (some ⟨b,off,none⟩) n c) v):∃ b' c' r,v=.slice (some ⟨b',off,none⟩) n c'/\m b=some (b',r)/\((r=none/\c'=c)\/∃ sz K,r=some (sz,K)/\c' * sz+off=K * sz/\n<=c'):=by
 cases h with
 | slice h=>exact⟨_,_,_,rfl,h,.inl ⟨rfl,rfl⟩⟩
 | row h hc hl=>exact⟨_,_,_,rfl,h,.inr ⟨_,_,rfl,hc,hl⟩⟩
theorem VR.sliceN_inv {n c:Nat} {v:Value} (h:VR m (.slice none n c) v):v=.slice none 0 0/\n=0/\c=0:=by cases h;exact⟨rfl,rfl,rfl⟩
theorem VR.map_inv {b:Nat} {v:Value} (h:VR m (.map (some b)) v):∃ b',v=.map (some b')/\m b=some (b',none):=by cases h with|map h=>exact⟨_,rfl,h⟩
theorem VR.iface_inv {t:TypeId} {x v:Value} (h:VR m (.iface t x) v):∃ x',v=.iface t x'/\VR m x x':=by cases h with|iface _ h=>exact⟨_,rfl,h⟩
theorem zGv (off:Nat):∀ (l:List Value) (k:Nat) (cs:Array Value),((l.zipIdx k).foldl (fun cs x=>cs.setIfInBounds (off+x.2) x.1) cs).toList=setL cs.toList (off+k) l
 | [],_,_=>rfl
 | v::l,k,cs=>by
  simp only[List.zipIdx_cons,List.foldl_cons,setL];rw[zGv off l (k+1)];simp[Nat.add_assoc]
theorem zLH (off:Nat) (vs cs:Array Value):(vs.zipIdx.foldl (fun cs (c,j)=>cs.setIfInBounds (off+j) c) cs).toList=setL cs.toList off vs.toList:=by
 have:=zGv off vs.toList 0 cs;rw[← Array.foldl_toList]
 simpa using this
theorem zI8 {place:Nat->Option (Nat × Nat)} {l l':List (Nat × Value)} (hl:PR m l l'):∀ {c r:List Value} {c':Array Value},LR m c c'.toList->zGT place c l=some r->∃ r',Instr.fill place c' l'=some r'/\LR m r r'.toList:=by
 induction hl with
 | nil=>intro c r c' hc e;simp[zGT]at e;subst e;exact⟨c',rfl,hc⟩
 | @cons i v v' l l' hv _ ih =>
  intro c r c' hc e;simp only[zGT]at e;split at e
  ·cases e
  ·rename_i off size hp;rw[zAJ]at e;simp only[Bool.and_eq_true,Nat.beq_eq,Nat.ble_eq]at e;obtain⟨⟨e1,e2⟩,e3⟩:=e;have hcl:=hv.cells.len;simp only[Array.length_toList]at hcl;have hlen:=hc.len;simp only[Array.length_toList]at hlen;obtain⟨r',h1,h2⟩:=ih (c':=(v'.cells.zipIdx.foldl (fun cs (c,j)=>cs.setIfInBounds (off+j) c) c')) (by rw[zLH];exact hv.cells.setL off hc) e3
   refine⟨r',?_,h2⟩;simp only[Instr.fill,hp];rw[if_neg (by simp;omega)]
   exact h1
theorem zKR (l:List Value):∀ n,(repL l n).length=n * l.length
 | 0=>by simp[repL]
 | n+1=>by simp[repL,zKR l n,Nat.succ_mul,Nat.add_comm]
theorem zJy (l:List Value):∀ n j,j<n * l.length->(repL l n)[j]?=l[j % l.length]?
 | 0,j,h=>by simp at h
 | n+1,j,h=>by
  simp only[repL]
  by_cases hj:j<l.length
  ·rw[List.getElem?_append_left hj,Nat.mod_eq_of_lt hj]
  ·rw[List.getElem?_append_right (by omega),zJy l n (j - l.length) (by rw[Nat.succ_mul]at h;omega),Nat.mod_eq_sub_mod (a:=j) (b:=l.length) (by omega)]
theorem zJn (z:Array Value) (n s:Nat) (hs:z.size=s) (h0:1<=s):((Array.range (n * s)).map (fun j=>z[j % z.size]!)).toList=repL z.toList n:=by
 subst hs;apply List.ext_getElem?;intro j
 by_cases hj:j<n * z.size
 ·rw[zJy _ _ _ (by simpa using hj)]
  have hm:j % z.size<z.size:=Nat.mod_lt _ h0;simp[hj,hm]
 ·rw[List.getElem?_eq_none (by simp;omega),List.getElem?_eq_none (by rw[zKR];simp;omega)]
theorem LR.repL {l l':List Value} (h:LR m l l'):∀ n,LR m (repL l n) (repL l' n)
 | 0=>.nil
 | n+1=>h.append (LR.repL h n)
theorem zJ3 {α β:Type} {g:α->Option β}:∀ {l:List α},(∀ f ∈ l,(g f).isSome=true)->∃ r,l.mapM g=some r/\∀ k:Nat,r[k]?=(l[k]?).bind g
 | [],_=>⟨[],rfl,fun k=>by simp⟩
 | x::l,h=>by
  obtain⟨r,h1,h2⟩:=zJ3 (l:=l) (fun f hf=>h f (List.mem_cons_of_mem _ hf))
  obtain⟨y,hy⟩:=Option.isSome_iff_exists.1 (h x (List.mem_cons_self ..));refine⟨y::r,by simp[hy,h1],fun k=>?_⟩
  cases k with
  | zero=>simp[hy]
  | succ k=>simpa using h2 k
end
section
variable {P:Program} {G:Nat} {O:Orc} {o:Oper} {t:List Value} {h h':AH} {v:Value}
theorem zKP {T:TypeId} {parts:Array (Nat × Operand)} {l:List (Nat × Value)} {c:List Value} (ho:o.op=.build T parts) (el:aevp G t parts.toList=some l)
  (k:∀ (m:NM) (l':List (Nat × Value)),PR m l l'->∃ c',P.built T l'=some c'/\LR m c c'.toList):OpD P G O o t h (.agg c.toArray) h :=
 .same fun m w a M T'=>by
  obtain⟨c',h1,h2⟩:=k m _ (zIq M T' el);refine⟨.agg c',?_,VR.aggL (a':=c'.toList) h2⟩;unfold execOp;have h3:P.built T (parts.map fun (i,x)=>(i,a.eval x)).toList=some c':=by simpa using h1
  simp only[ho,Sem.run_bind,run_build w T _ c' h3,Result.andThen_ok,Sem.run_pure]
theorem zIL {T:TypeId} {i:TypeInfo} {z:Value} {fields:Array Field} {m:NM} {l l':List (Nat × Value)} {c:List Value} (hi:P.info? T=some i) (hz:i.zero=some z) (hp:plain z=true) (hu:P.underlying T=some (.struct fields))
  (hf:zGT (fun k=>(fields[k]?).bind fun f=>(zBi P f.type).map fun n=>(f.offset,n)) z.cells.toList l=some c) (ha:(fields.toList.all fun f=>(zBi P f.type).isSome)=true) (hl:PR m l l'):∃ c',P.built T l'=some c'/\LR m c c'.toList:=by
 obtain⟨r,h1,h2⟩:=zJ3 (g:=fun f:Field=>(P.info? f.type).map fun i=>(f.offset,i.size)) (l:=fields.toList) (fun f hf=>by
  have:=List.all_eq_true.1 ha f hf
  simpa [zBi] using this)
 obtain⟨c',h3,h4⟩:=zI8 hl (zCc hp) hf;refine⟨c',?_,h4⟩;simp only[Program.built,hi,hu,hz,h1];rw[← h3]
 congr 1
 funext k
 have:=h2 k;simp only[List.getElem?_toArray,this,Array.getElem?_toList,zBi,Option.map_map];rfl
theorem zIw {T e:TypeId} {i ie:TypeInfo} {z:Value} {n:Nat} {m:NM} {l l':List (Nat × Value)} {c:List Value} (hi:P.info? T=some i) (hz:i.zero=some z) (hp:plain z=true) (hu:P.underlying T=some (.array n e)) (he:P.info? e=some ie)
  (hf:zGT (fun k=>some (k * ie.size,ie.size)) z.cells.toList l=some c) (hl:PR m l l'):∃ c',P.built T l'=some c'/\LR m c c'.toList:=by
 obtain⟨c',h3,h4⟩:=zI8 hl (zCc hp) hf;exact⟨c',by simp only[Program.built,hi,hu,hz,he];exact h3,h4⟩
theorem zGY {T e:TypeId} {i:TypeInfo} {z:Value} {n:Nat} {parts:Array (Nat × Value)} {c:Array Value} {w:World} (hu:P.underlying T=some (.slice e)) (hi:P.info? e=some i) (hz:i.zero=some z) (hn:n * i.size<=65536)
  (hf:Instr.fill (fun k=>some (k * i.size,i.size)) ((Array.range (n * i.size)).map (fun j=>z.cells[j % z.cells.size]!)) parts.toList=some c) :
  (Instr.buildSlice T n parts).run P w=.ok (.slice (some ⟨w.heap.size,0,none⟩) n n) (w.alloc (.cells c e)):=by
 unfold Instr.buildSlice;have h1:¬ (n * i.size > 2 ^ 24):=by omega
 by_cases h0:n * i.size=0
 ·rw[h0]at hf;simp only[Sem.run_bind,run_underlying hu,Result.andThen_ok,sizeOf,typeInfo,run_program,hi,Sem.run_pure,h1,h0,if_true,if_false];have e0:Array.range 0=#[]:=rfl;simp only[e0,Array.map_empty]at hf;simp[e0,hf,newRow]
 ·simp only[Sem.run_bind,run_underlying hu,Result.andThen_ok,sizeOf,typeInfo,run_program,hi,Sem.run_pure,h1,h0,if_false,zeroValue,hz];simp[hf,newRow]
theorem zHk {T e:TypeId} {i:TypeInfo} {z:Value} {n:Nat} {parts:Array (Nat × Operand)} {l:List (Nat × Value)} {c:List Value} (ho:o.op=.buildSlice T n parts) (el:aevp G t parts.toList=some l) (hu:P.underlying T=some (.slice e)) (hi:P.info? e=some i) (hz:i.zero=some z)
  (hp:plain z=true) (hs:z.cells.size=i.size) (h1:1<=i.size) (hn:n * i.size<=65536) (hf:zGT (fun k=>some (k * i.size,i.size)) (repL z.cells.toList n) l=some c) :
  OpD P G O o t h (.slice (some ⟨h.next,0,none⟩) n n) (h.new (.o (.cells c.toArray e))) :=
 .new (mkv:=fun b=>.slice (some ⟨b,0,none⟩) n n) fun m w a M T'=>by
  obtain⟨c',h3,h4⟩:=zI8 (zIq M T' el) (c':=(Array.range (n * i.size)).map (fun j=>z.cells[j % z.cells.size]!)) (by rw[zJn _ _ _ hs h1];exact(zCc hp).repL n) hf
  refine⟨.cells c' e,none,fun b=>.slice (some ⟨b,0,none⟩) n n,w.alloc (.cells c' e),?_,zBn _ _,World.alloc_heap_new w _,.cells (by simpa using h4),fun m' b n' e'=>.slice e'⟩
  unfold execOp;have h5:(Instr.buildSlice T n (parts.map fun (i,x)=>(i,a.eval x))).run P w=.ok (.slice (some ⟨w.heap.size,0,none⟩) n n) (w.alloc (.cells c' e)):=zGY hu hi hz hn (by simpa using h3)
  simp only[ho,Sem.run_bind,h5,Result.andThen_ok,Sem.run_pure]
theorem zLt {m:NM} {w:World} {b:Nat}:∀ {l:List Value} {off:Nat},(∀ (i:Nat) (v:Value),l[i]?=some v->∃ v',w.cell? ⟨b,off+i,none⟩=some v'/\VR m v v')->∃ l',LR m l l'/\∀ (j:Nat) (u:Value),l'[j]?=some u->w.cell? ⟨b,off+j,none⟩=some u
 | [],_,_=>⟨[],.nil,fun j u h=>by simp at h⟩
 | v::l,off,k=>by
  obtain⟨v',h1,h2⟩:=k 0 v rfl
  obtain⟨l',h3,h4⟩:=zLt (l:=l) (off:=off+1) (fun i u hu=>by
   have:=k (i+1) u (by simpa using hu)
   rwa [show off+(i+1)=off+1+i from by omega]at this)
  refine⟨v'::l',.cons h2 h3,fun j u hu=>?_⟩
  cases j with
  | zero=>simp at hu;subst hu;exact h1
  | succ j =>
   have:=h4 j u (by simpa using hu)
   rwa [show off+(j+1)=off+1+j from by omega]
theorem zMk {m:NM} {w:World} {b off:Nat} {T:TypeId} {c:List Value} {v:Value} (hc:∀ (i:Nat) (v:Value),c[i]?=some v->∃ v',w.cell? ⟨b,i,none⟩=some v'/\VR m v v') (e:rdv P T c off=some v) :
  ∃ v',(loadVar T ⟨b,off,none⟩).run P w=.ok v' w/\VR m v v':=by
 simp only[rdv]at e
 cases hu:P.underlying T with
 | none=>simp[hu]at e
 | some d =>
  simp only[hu]at e
  cases hd:d.isRow with
  | true =>
   simp only[hd,cond_true]at e
   cases hn:zBi P T with
   | none=>simp[hn]at e
   | some n =>
    simp only[hn]at e;rw[zAJ]at e;obtain⟨e1,e2⟩:=e;rw[Nat.beq_eq]at e1
    cases e2
    obtain⟨l',h1,h2⟩:=zLt (m:=m) (w:=w) (b:=b) (l:=(c.drop off).take n) (off:=off) (fun i v hv=>by
     rw[List.getElem?_take]at hv;split at hv
     ·rw[List.getElem?_drop]at hv;exact hc _ _ hv
     ·cases hv)
    refine⟨.agg l'.toArray,run_loadVar_mid w b off T l' d h2 hu hd ?_,VR.aggL h1⟩;rw[← h1.len,e1];exact hn
  | false =>
   simp only[hd,cond_false]at e;split at e
   ·rename_i v0 r0 h0
    cases e
    obtain⟨v',h1,h2⟩:=hc off v (by
     have:(c.drop off)[0]?=some v:=by rw[h0];rfl
     simpa [List.getElem?_drop] using this)
    refine⟨v',?_,h2⟩;have hagg:(isAgg T).run P w=.ok false w:=by
     unfold isAgg;rw[Sem.run_bind,run_underlying hu w]
     cases d<;>simp_all
    simp[loadVar,Sem.run_bind,hagg,load,Sem.run,h1]
   ·cases e
theorem zDr {m:NM} {w:World} (M:MT G m h w) {n:Nat} {b:Nat} {r:Option (Nat × Nat)} (hm:m n=some (b,r)) {c:List Value} (hg:(∃ x U fr,h.get n=some (.o (.cells x U fr))/\x.toList=c)\/(∃ U sz,h.get n=some (.row c U sz))\/h.get n=some (.ro c)) :
  ∀ (i:Nat) (v:Value),c[i]?=some v->∃ v',w.cell? ⟨b,i,none⟩=some v'/\VR m v v':=by
 intro i v hv;rcases hg with ⟨x,U,fr,hg,rfl⟩|⟨U,sz,hg⟩|hg
 ·obtain⟨b',r',o',h1,h2,h3⟩:=M.obj n _ hg;rw[hm]at h1;cases h1
  cases h3 with
  | @cells _ c' _ _ hl =>
   have hlt:i<c'.toList.length:=by rw[← hl.len];exact(List.getElem?_eq_some_iff.1 hv).1
   refine⟨c'.toList[i],?_,hl.get hv (List.getElem?_eq_getElem hlt)⟩;rw[cell_of_row w b i c' U fr h2];simp
 ·obtain⟨b',r',o',h1,h2,h3⟩:=M.obj n _ hg;rw[hm]at h1;cases h1
  cases h3 with
  | @row _ cur _ _ K hs hl hL h0 hK =>
   have hlt:i<c.length:=(List.getElem?_eq_some_iff.1 hv).1;have hlt2:i<cur.size:=by omega
   refine⟨cur[i],?_,hL.get hv (by rw[List.getElem?_take,if_pos hlt];simp[hlt2])⟩
   rw[cell_of_row w b i cur U (0,0) h2];simp[hlt2]
 ·obtain⟨b',r',o',h1,h2,h3⟩:=M.obj n _ hg;rw[hm]at h1;cases h1
  cases h3 with
  | @ro _ c' U fr hl =>
   have hlt:i<c'.toList.length:=by rw[← hl.len];exact(List.getElem?_eq_some_iff.1 hv).1
   refine⟨c'.toList[i],?_,hl.get hv (List.getElem?_eq_getElem hlt)⟩;rw[cell_of_row w b i c' U fr h2];simp
theorem zNH {m:NM} {w:World} (M:MT G m h w) {T:TypeId} {n off:Nat} {b:Nat} {r:Option (Nat × Nat)} (hm:m n=some (b,r)) (e:h.load P T n off=some v):∃ v',(loadVar T ⟨b,off,none⟩).run P w=.ok v' w/\VR m v v':=by
 simp only[AH.load]at e;split at e
 ·rename_i c U fr hg;exact zMk (zDr M hm (.inl ⟨_,_,_,hg,rfl⟩)) e
 ·rename_i c U sz hg;exact zMk (zDr M hm (.inr (.inl ⟨_,_,hg⟩))) e
 ·rename_i c hg;exact zMk (zDr M hm (.inr (.inr hg))) e
 ·cases e
theorem zMA {m:NM} {w:World} (M:MT G m h w) {n off k:Nat} {b:Nat} {r:Option (Nat × Nat)} {l:List Value} (hm:m n=some (b,r)) (e:h.seg n off k=some l):l.length=k/\∃ l',LR m l l'/\∀ (j:Nat) (u:Value),l'[j]?=some u->w.cell? ⟨b,off+j,none⟩=some u:=by
 have key:∀ c:List Value,(∀ (i:Nat) (v:Value),c[i]?=some v->∃ v',w.cell? ⟨b,i,none⟩=some v'/\VR m v v')->(cond (Nat.beq ((c.drop off).take k).length k) (some ((c.drop off).take k)) none=some l)->l.length=k/\∃ l',LR m l l'/\∀ (j:Nat) (u:Value),l'[j]?=some u->w.cell? ⟨b,off+j,none⟩=some u:=by
  intro c hc e;rw[zAJ,Nat.beq_eq]at e;obtain⟨e1,e2⟩:=e
  cases e2
  exact⟨e1,zLt (fun i v hv=>by
   rw[List.getElem?_take]at hv;split at hv
   ·rw[List.getElem?_drop]at hv;exact hc _ _ hv
   ·cases hv)⟩
 simp only[AH.seg]at e;split at e
 ·rename_i c U fr hg;exact key _ (zDr M hm (.inl ⟨_,_,_,hg,rfl⟩)) e
 ·rename_i c U sz hg;exact key _ (zDr M hm (.inr (.inl ⟨_,_,hg⟩))) e
 ·rename_i c hg;exact key _ (zDr M hm (.inr (.inr hg))) e
 ·cases e
theorem zPU {T:TypeId} {x:Operand} {b off:Nat} (ho:o.op=.load T x) (ex:aev G t x=some (.pointer (some ⟨b,off,none⟩))) (e:h.load P T b off=some v):OpD P G O o t h v h :=
 .same fun m w a M T'=>by
  obtain⟨b',r,h1,h2⟩:=(zAS M T' ex).ptr_inv;obtain⟨v',h3,h4⟩:=zNH M h2 e;refine⟨v',?_,h4⟩;unfold execOp;simp only[ho,h1,Instr.loadAt,Instr.sureAddr,Sem.run_bind,Sem.run_pure,Result.andThen_ok,h3]
theorem zDI:∀ (vs:List Value) (cs:Array Value) (k:Nat),(zCu cs k vs).toList=setL cs.toList k vs
 | [],_,_=>rfl
 | v::r,cs,k=>by
  simp only[zCu,setL];rw[zDI r];simp
theorem zHv:∀ (vs:List Value) (cs:Array Value) (k:Nat),(zCu cs k vs).size=cs.size
 | [],_,_=>rfl
 | v::r,cs,k=>by
  show (zCu (cs.setIfInBounds k v) (k+1) r).size=_
  rw[zHv r];simp
theorem zHN:∀ (vs c:List Value) (k:Nat),(setL c k vs).length=c.length
 | [],_,_=>rfl
 | v::r,c,k=>by simp only[setL];rw[zHN r];simp
theorem zH3:∀ (vs c:List Value) (k n:Nat),k+vs.length<=n->(setL c k vs).take n=setL (c.take n) k vs
 | [],_,_,_,_=>rfl
 | v::r,c,k,n,h=>by
  simp only[setL,List.length_cons]at h ⊢;rw[zH3 r _ _ _ (by omega),List.take_set]
theorem zGV (T:TypeId) (ad:Addr) (v:Value):storeVar T ad v=storeVar T ad (.agg v.cells):=rfl
theorem zOe {m:NM} {w:World} (M:MT G m h w) {T:TypeId} {n off:Nat} {b:Nat} {r:Option (Nat × Nat)} {u u':Value} (hm:m n=some (b,r)) (hu:VR m u u') (hs:zBi P T=some u.cells.size) (e:h.store n off u.cells.toList=some h') :
  ∃ w',(storeVar T ⟨b,off,none⟩ u').run P w=.ok () w'/\EX m h w m h' w'/\MT G m h' w':=by
 have hcl:=hu.cells;have hlen:u'.cells.size=u.cells.size:=by simpa using hcl.len.symm
 simp only[AH.store]at e;rw[zAJ]at e;simp only[Bool.and_eq_true,Nat.ble_eq]at e;obtain⟨⟨hf,h1⟩,e⟩:=e;have h1':u'.cells.all (·.oneCell')=true:=by
  rw[← Array.all_toList,hcl.one];exact h1
 have run:∀ (ht:w.there b off u'.cells.size),(storeVar T ⟨b,off,none⟩ u').run P w=.ok () (w.setCells b off u'.cells.toList):=by
  intro ht;rw[zGV];exact run_storeVar_mid w b off T u'.cells ht (by rw[hlen];exact hs) h1'
 split at e
 ·rename_i c U lo hi hg;rw[zAJ]at e;simp only[Bool.and_eq_true,Bool.or_eq_true,Nat.ble_eq,Array.length_toList]at e;obtain⟨⟨e1,e2⟩,e3⟩:=e
  cases e3
  obtain⟨b',r',o',k1,k2,k3⟩:=M.obj n _ hg;rw[hm]at k1;cases k1
  cases k3 with
  | @cells _ c' _ _ hl =>
   have hcs:c'.size=c.size:=by simpa using hl.len.symm
   refine⟨_,run (fun j hj=>?_),zCo M hg hf hm (zBc _ _ _ _) (zBy _ _ _ _ _ _ _ k2) (.cells ?_)⟩
   ·rw[cell_of_row w b _ c' U (lo,hi) k2];refine⟨by simp;omega,?_⟩
    simp only[World.frozen?,k2];have:¬ (lo<=off+j/\off+j<hi):=by omega
    simpa using this
   ·rw[zDI]
    simpa using hcl.setL off hl
 ·rename_i c U sz hg;rw[zAJ,Nat.ble_eq,Array.length_toList]at e;obtain⟨e1,e2⟩:=e
  cases e2
  obtain⟨b',r',o',k1,k2,k3⟩:=M.obj n _ hg;rw[hm]at k1;cases k1
  cases k3 with
  | @row _ cur _ _ K hs0 hl hL h0 hK =>
   refine⟨_,run (fun j hj=>?_),zCo M hg hf hm (zBc _ _ _ _) (zBy _ _ _ _ _ _ _ k2) (.row ?_ ?_ ?_ h0 hK)⟩
   ·rw[cell_of_row w b _ cur U (0,0) k2];refine⟨by simp;omega,?_⟩
    simp[World.frozen?,k2]
   ·rw[zHv];exact hs0
   ·rw[zHv,zHN];exact hl
   ·rw[zHN,zDI,zH3 _ _ _ _ (by have:=hcl.len;simp at this;simp;omega)]
    exact hcl.setL off hL
 ·cases e
theorem zLG {b off:Nat} {vs:List Value} (e:h.store b off vs=some h'):Keep h h':=by
 simp only[AH.store]at e;rw[zAJ]at e;simp only[Bool.and_eq_true,Nat.ble_eq]at e;obtain⟨⟨hf,_⟩,e⟩:=e;split at e
 ·rename_i hg;rw[zAJ]at e;obtain⟨_,e⟩:=e
  cases e;exact Keep.put hg hf _
 ·rename_i hg;rw[zAJ]at e;obtain⟨_,e⟩:=e
  cases e;exact Keep.put hg hf _
 ·cases e
theorem zNf {T:TypeId} {x y:Operand} {b off:Nat} {u:Value} (ho:o.op=.store T x y) (ex:aev G t x=some (.pointer (some ⟨b,off,none⟩))) (ey:aev G t y=some u) (hs:zBi P T=some u.cells.size) (e:h.store b off u.cells.toList=some h'):OpD P G O o t h undef h' :=
 ⟨zLG e,fun m w a M F T'=>by
  obtain⟨b',r,h1,h2⟩:=(zAS M T' ex).ptr_inv;obtain⟨w',h3,h4,h5⟩:=zOe M h2 (zAS M T' ey) hs e;refine⟨m,undef,w',.skip,?_,.inr ⟨rfl,rfl⟩,h4,h5,.undef⟩;unfold execOp
  simp only[ho,h1,Instr.storeAt,Instr.sureAddr,Sem.run_bind,Sem.run_pure,Result.andThen_ok,h3]⟩
end
section
variable {P:Program} {G:Nat} {O:Orc} {o:Oper} {t:List Value} {h h':AH} {v:Value}
theorem zEF {x:Operand} {u:Value} (ho:o.op=.nilCheck x) (e:aev G t x=some u) (hu:(match u with|.pointer (some ⟨_,_,none⟩)|.func (.func _) _ _|.map (some _)=>true|_=>false)=true):OpD P G O o t h u h :=
 .same fun m w a M T'=>by
  have h1:=zAS M T' e;refine⟨a.eval x,?_,h1⟩;unfold execOp;simp only[ho]
  generalize a.eval x=q at h1 ⊢
  cases h1<;>simp_all
theorem zO6 {op:BinOp} {T:TypeId} {x y:Operand} {U:TypeId} {p q:Value} (ho:o.op=.binOp op T x y U) (ex:aev G t x=some p) (ey:aev G t y=some q) (hp:plain p=true) (hq:plain q=true)
  (e:zBs P (do eqGuard op T x y p q;binOp op T p q)=some v) (hv:plain v=true):OpD P G O o t h v h :=
 .same fun m w a M T'=>by
  have h1:=zDp hp (zAS M T' ex);have h2:=zDp hq (zAS M T' ey);refine⟨v,?_,zBq hv⟩;have h3:=zCL _ e w;unfold execOp;simp only[ho,h1,h2];rw[Sem.run_bind,h3];rfl
theorem zMF {op:BinOp} {T:TypeId} {x y:Operand} {U:TypeId} {p q:Value} {d:TypeDesc} {r:Bool} (ho:o.op=.binOp op T x y U) (ex:aev G t x=some p) (ey:aev G t y=some q) (hu:P.underlying T=some d) (hr:zMt p q=some r) (hp:nilT d p=true) (hq:nilT d q=true)
  {v:Value} (hop:(op=.eql/\v=.bool r)\/(op=.neq/\v=.bool !r)):OpD P G O o t h v h :=
 .same fun m w a M T'=>by
  have h1:=zAS M T' ex;have h2:=zAS M T' ey;have hv:plain v=true:=by rcases hop with ⟨_,rfl⟩|⟨_,rfl⟩<;>rfl
  refine⟨v,?_,zBq hv⟩;have h3:(Op.equal T (a.eval x) (a.eval y)).run P w=.ok r w:=by
   unfold Op.equal Op.equalIn Op.maxDepth
   generalize a.eval x=p' at h1
   generalize a.eval y=q' at h2
   cases h1<;>cases h2<;>simp[zMt]at hr<;>subst hr<;>cases d<;>simp[nilT]at hp hq<;>simp[Sem.run_bind,run_underlying hu]
  unfold execOp;have h4:(eqGuard op T x y (a.eval x) (a.eval y)).run P w=.ok () w:=by
   unfold eqGuard
   generalize a.eval x=p' at h1
   generalize a.eval y=q' at h2
   cases h1<;>cases h2<;>simp[zMt]at hr<;>rcases hop with ⟨rfl,_⟩|⟨rfl,_⟩<;>simp
  have h5:(binOp op T (a.eval x) (a.eval y)).run P w=.ok v w:=by
   generalize a.eval x=p' at h1 h3
   generalize a.eval y=q' at h2 h3
   rcases hop with ⟨rfl,rfl⟩|⟨rfl,rfl⟩<;>cases h1<;>cases h2<;>simp[zMt]at hr<;>subst hr<;>(unfold binOp;simp only[Sem.run_bind,h3];rfl)
  simp only[ho,Sem.run_bind,h4,h5,Result.andThen_ok,Sem.run_pure]
theorem zQh {op:UnOp} {T:TypeId} {x:Operand} {p:Value} (ho:o.op=.unOp op T x) (ex:aev G t x=some p) (hp:plain p=true) (e:zBs P (Op.unary op p)=some v) (hv:plain v=true):OpD P G O o t h v h :=
 .same fun m w a M T'=>by
  refine⟨v,?_,zBq hv⟩;unfold execOp;simp only[ho,zDp hp (zAS M T' ex),Sem.run_bind,zCL _ e w,Result.andThen_ok,Sem.run_pure]
theorem zOz {S D:TypeId} {x:Operand} {p:Value} (ho:o.op=.convert S D x) (ex:aev G t x=some p) (hp:plain p=true) (e:zBs P (convert S D p)=some v) (hv:plain v=true):OpD P G O o t h v h :=
 .same fun m w a M T'=>by
  refine⟨v,?_,zBq hv⟩;unfold execOp;simp only[ho,zDp hp (zAS M T' ex),Sem.run_bind,zCL _ e w,Result.andThen_ok,Sem.run_pure]
theorem zOg {T:TypeId} {x:Operand} {p:Value} {d:TypeDesc} (ho:o.op=.makeInterface T x) (ex:aev G t x=some p) (hu:P.underlying T=some d) (hd:∀ ms,d≠.interface ms):OpD P G O o t h (.iface T p) h :=
 .same fun m w a M T'=>by
  refine⟨.iface T (a.eval x),?_,.iface T (zAS M T' ex)⟩;unfold execOp;have h1:(Instr.makeInterface T (a.eval x)).run P w=.ok (.iface T (a.eval x)) w:=by
   unfold Instr.makeInterface;rw[Sem.run_bind,run_underlying hu w]
   cases d<;>first|rfl|exact absurd rfl (hd _)
  simp only[ho,Sem.run_bind,h1,Result.andThen_ok,Sem.run_pure]
theorem zMN {f:FuncId} {first cap:Array Operand} {p q:List Value} (ho:o.op=.makeFunc (.func f) first cap) (e1:aevs G t first.toList=some p) (e2:aevs G t cap.toList=some q):OpD P G O o t h (.func (.func f) p.toArray q.toArray) h :=
 .same fun m w a M T'=>by
  refine⟨.func (.func f) (first.map a.eval) (cap.map a.eval),?_,?_⟩
  ·unfold execOp;simp[ho,Instr.makeFunc]
  ·have:=VR.funcL (f:=f) (zD7 M T' e1) (zD7 M T' e2);rw[show first.map a.eval=(first.toList.map a.eval).toArray from Array.toList_inj.1 (by simp),show cap.map a.eval=(cap.toList.map a.eval).toArray from Array.toList_inj.1 (by simp)]
   exact this
theorem zLC {T:TypeId} (ho:o.op=.makeMap T none):OpD P G O o t h (.map (some h.next)) (h.new (.o (.map #[] 0))) :=
 .new (mkv:=fun b=>.map (some b)) fun m w a M T'=>⟨.map #[] 0,none,fun b=>.map (some b),w.alloc (.map #[] 0),by unfold execOp;simp[ho,Instr.makeMap,newObj,Sem.run],zBn _ _,World.alloc_heap_new w _,.map .nil,fun m' b n e=>.map e⟩
theorem zIK {S:TypeId} {x:Operand} {f b off:Nat} {fields:Array Field} {fd:Field} {n:Nat} (ho:o.op=.fieldAddr S x f) (ex:aev G t x=some (.pointer (some ⟨b,off,none⟩))) (hu:P.underlying S=some (.struct fields)) (hf:fields[f]?=some fd) (hs:zBi P fd.type=some (n+1)) :
  OpD P G O o t h (.pointer (some ⟨b,off+fd.offset,none⟩)) h :=
 .same fun m w a M T'=>by
  obtain⟨b',r,h1,h2⟩:=(zAS M T' ex).ptr_inv;refine⟨.pointer (some ⟨b',off+fd.offset,none⟩),?_,.ptr h2⟩;unfold execOp;obtain⟨i,hi,hin⟩:=Option.map_eq_some_iff.1 hs;simp[ho,h1,Instr.fieldAt,Instr.sureAddr,Sem.run_bind,run_underlying hu,hf,fieldPlace,sizeOf,typeInfo,hi,hin,Addr.add_mid]
theorem zLZ {m:NM} {w:World} {T:TypeId} {c c':Array Value} {off:Nat} (hc:LR m c.toList c'.toList) (e:rdv P T c.toList off=some v):∃ v',(part T c' off).run P w=.ok v' w/\VR m v v':=by
 simp only[rdv]at e
 cases hu:P.underlying T with
 | none=>simp[hu]at e
 | some d =>
  simp only[hu]at e
  cases hd:d.isRow with
  | true =>
   simp only[hd,cond_true]at e
   cases hn:zBi P T with
   | none=>simp[hn]at e
   | some n =>
    simp only[hn]at e;rw[zAJ]at e;obtain⟨e1,e2⟩:=e
    cases e2
    obtain⟨i,hi,hin⟩:=Option.map_eq_some_iff.1 hn;refine⟨.agg (c'.extract off (off+n)),?_,?_⟩
    ·have hagg:(isAgg T).run P w=.ok true w:=by
      unfold isAgg;rw[Sem.run_bind,run_underlying hu w]
      cases d<;>simp_all
     simp[part,Sem.run_bind,hagg,sizeOf,typeInfo,hi,hin]
    ·have h1:c'.extract off (off+n)=((c'.toList.drop off).take n).toArray:=by
      apply Array.toList_inj.1;simp[Array.toList_extract,List.extract_eq_take_drop]
     rw[h1];exact VR.aggL ((hc.drop off).take n)
  | false =>
   simp only[hd,cond_false]at e;split at e
   ·rename_i v0 r0 h0
    cases e
    have hv:c.toList[off]?=some v:=by
     have:(c.toList.drop off)[0]?=some v:=by rw[h0];rfl
     simpa [List.getElem?_drop] using this
    have hlt:off<c'.toList.length:=by rw[← hc.len];exact(List.getElem?_eq_some_iff.1 hv).1
    have hv':c'[off]?=some (c'.toList[off]):=by
     rw[← Array.getElem?_toList];exact List.getElem?_eq_getElem hlt
    refine⟨c'.toList[off],?_,hc.get hv (List.getElem?_eq_getElem hlt)⟩;have hagg:(isAgg T).run P w=.ok false w:=by
     unfold isAgg;rw[Sem.run_bind,run_underlying hu w]
     cases d<;>simp_all
    simp only[part,Sem.run_bind,hagg,Result.andThen_ok,Bool.false_eq_true,if_false,hv',Sem.run_pure]
   ·cases e
theorem zOR {T:TypeId} {x:Operand} {f:Nat} {cs:Array Value} {fields:Array Field} {fd:Field} (ho:o.op=.field T x f) (ex:aev G t x=some (.agg cs)) (hu:P.underlying T=some (.struct fields)) (hf:fields[f]?=some fd) (e:rdv P fd.type cs.toList fd.offset=some v):OpD P G O o t h v h :=
 .same fun m w a M T'=>by
  obtain⟨c',h1,h2⟩:=(zAS M T' ex).agg_inv;obtain⟨v',h3,h4⟩:=zLZ (w:=w) h2 e;refine⟨v',?_,h4⟩;unfold execOp;simp[ho,h1,Instr.field,Sem.run_bind,run_underlying hu,hf,asAgg,h3]
theorem zL6 {T e:TypeId} {x y:Operand} {k:IntKind} {i:Int} {n b off sz:Nat} (ho:o.op=.indexAddr T x y) (ex:aev G t x=some (.pointer (some ⟨b,off,none⟩))) (ey:aev G t y=some (.int k i)) (h0:0<=i) (hu:P.underlying T=some (.array n e)) (hs:zBi P e=some sz) (hi:i.toNat<n) :
  OpD P G O o t h (.pointer (some ⟨b,off+i.toNat * sz,none⟩)) h :=
 .same fun m w a M T'=>by
  obtain⟨b',r,h1,h2⟩:=(zAS M T' ex).ptr_inv;have h3:=(zAS M T' ey).int_inv;refine⟨.pointer (some ⟨b',off+i.toNat * sz,none⟩),?_,.ptr h2⟩;obtain⟨ti,hti,htn⟩:=Option.map_eq_some_iff.1 hs;have h4:0<=i/\i<(n:Int):=⟨h0,by omega⟩
  unfold execOp;simp[ho,h1,h3,Instr.indexAt,asIntOf,Instr.sureAddr,Sem.run_bind,run_underlying hu,h4,sizeOf,typeInfo,hti,htn,Addr.add_mid]
theorem zLb {T e:TypeId} {x y:Operand} {k:IntKind} {i:Int} {n b off c sz:Nat} (ho:o.op=.indexAddr T x y) (ex:aev G t x=some (.slice (some ⟨b,off,none⟩) n c)) (ey:aev G t y=some (.int k i)) (h0:0<=i) (hu:P.underlying T=some (.slice e)) (hs:zBi P e=some sz) (hi:i.toNat<n) :
  OpD P G O o t h (.pointer (some ⟨b,off+i.toNat * sz,none⟩)) h :=
 .same fun m w a M T'=>by
  obtain⟨b',c',r,h1,h2,_⟩:=(zAS M T' ex).slice_inv;have h3:=(zAS M T' ey).int_inv;refine⟨.pointer (some ⟨b',off+i.toNat * sz,none⟩),?_,.ptr h2⟩;obtain⟨ti,hti,htn⟩:=Option.map_eq_some_iff.1 hs;have h4:0<=i/\i<(n:Int):=⟨h0,by omega⟩
  unfold execOp;simp[ho,h1,h3,Instr.indexAt,asIntOf,Instr.sureAddr,Sem.run_bind,run_underlying hu,h4,sizeOf,typeInfo,hti,htn,Addr.add_mid]
theorem zLs {T e:TypeId} {x y:Operand} {k:IntKind} {i:Int} {n sz:Nat} {cs:Array Value} (ho:o.op=.index T x y) (ex:aev G t x=some (.agg cs)) (ey:aev G t y=some (.int k i)) (h0:0<=i) (hu:P.underlying T=some (.array n e)) (hs:zBi P e=some sz) (hi:i.toNat<n) (hr:rdv P e cs.toList (i.toNat * sz)=some v) :
  OpD P G O o t h v h :=
 .same fun m w a M T'=>by
  obtain⟨c',h1,h2⟩:=(zAS M T' ex).agg_inv;have h3:=(zAS M T' ey).int_inv;obtain⟨v',h5,h6⟩:=zLZ (w:=w) h2 hr;obtain⟨ti,hti,htn⟩:=Option.map_eq_some_iff.1 hs;have h4:0<=i/\i<(n:Int):=⟨h0,by omega⟩
  refine⟨v',?_,h6⟩;unfold execOp;simp[ho,h1,h3,Instr.index,asIntOf,Sem.run_bind,run_underlying hu,h4,sizeOf,typeInfo,hti,htn,h5]
theorem zLT {T:TypeId} {x y:Operand} {k:IntKind} {i:Int} {q:ByteArray} {b:UInt8} {r:List UInt8} (ho:o.op=.index T x y) (ex:aev G t x=some (.string q)) (ey:aev G t y=some (.int k i)) (h0:0<=i) (hu:P.underlying T=some .string) (hr:q.data.toList.drop i.toNat=b::r) :
  OpD P G O o t h (.int .u8 b.toNat) h :=
 .same fun m w a M T'=>by
  have h1:=(zAS M T' ex).string_inv;have h3:=(zAS M T' ey).int_inv;refine⟨.int .u8 b.toNat,?_,.int _ _⟩;have hb:q.data[i.toNat]?=some b:=by
   have:(q.data.toList.drop i.toNat)[0]?=some b:=by rw[hr];rfl
   simpa [List.getElem?_drop] using this
  have hq:q[i.toNat]?=some b:=by
   obtain⟨hlt,e⟩:=Array.getElem?_eq_some_iff.1 hb;have hlt':i.toNat<q.size:=hlt;rw[getElem?_pos q i.toNat hlt'];exact congrArg some e
  unfold execOp;simp[ho,h1,h3,Instr.index,asIntOf,Sem.run_bind,run_underlying hu,h0,hq]
theorem zMv {x:Operand} {S A:TypeId} {ok:Bool} {u:Value} {d:TypeDesc} (ho:o.op=.typeAssert x S A ok) (ex:aev G t x=some (.iface A u)) (hu:P.underlying A=some d) (hd:∀ ms,d≠.interface ms):OpD P G O o t h (cond ok (.tuple #[u,.bool true]) u) h :=
 .same fun m w a M T'=>by
  obtain⟨u',h1,h2⟩:=(zAS M T' ex).iface_inv;refine⟨cond ok (.tuple #[u',.bool true]) u',?_,?_⟩
  ·unfold execOp;have h3:(Instr.typeAssert (.iface A u') S A ok).run P w=.ok (cond ok (.tuple #[u',.bool true]) u') w:=by
    unfold Instr.typeAssert;rw[Sem.run_bind,run_underlying hu w]
    cases d<;>first|exact absurd rfl (hd _)|(cases ok<;>simp)
   simp only[ho,h1,Sem.run_bind,h3,Result.andThen_ok,Sem.run_pure]
  ·cases ok
   ·exact h2
   ·exact VR.tupL (a:=[u,.bool true]) (a':=[u',.bool true]) (.cons h2 (.cons (.bool _) .nil))
theorem zKv {x:Operand} {i:Nat} {vs:Array Value} {r:List Value} (ho:o.op=.extract x i) (ex:aev G t x=some (.tuple vs)) (e:vs.toList.drop i=v::r):OpD P G O o t h v h :=
 .same fun m w a M T'=>by
  obtain⟨c',h1,hc⟩:=(zAS M T' ex).tup_inv;have hv:vs.toList[i]?=some v:=by
   have:(vs.toList.drop i)[0]?=some v:=by rw[e];rfl
   simpa [List.getElem?_drop] using this
  have hlt:i<c'.toList.length:=by rw[← hc.len];exact(List.getElem?_eq_some_iff.1 hv).1
  have hv':c'[i]?=some (c'.toList[i]):=by rw[← Array.getElem?_toList];exact List.getElem?_eq_getElem hlt
  refine⟨c'.toList[i],?_,hc.get hv (List.getElem?_eq_getElem hlt)⟩;unfold execOp;simp only[ho,h1,Instr.extract,hv',Sem.run_bind,Sem.run_pure,Result.andThen_ok]
end
section
variable {P:Program} {G:Nat} {O:Orc} {o:Oper} {t:List Value} {h h':AH} {v:Value}
theorem zIa {T e:TypeId} {x y:Operand} {a:Int} {i:TypeInfo} {z:Value} (ho:o.op=.makeSlice T x y) (ex:aev G t x=some (.int .i64 a)) (ey:aev G t y=some (.int .i64 a)) (h0:0<=a) (hu:P.underlying T=some (.slice e)) (hi:P.info? e=some i) (hz:i.zero=some z)
  (hp:plain z=true) (hs:z.cells.size=i.size) (h1:1<=i.size) (hn:a.toNat * i.size<=65536) (hb:a.toNat * i.bytes<=1048576) :
  OpD P G O o t h (.slice (some ⟨h.next,0,none⟩) a.toNat a.toNat) (h.new (.o (.cells (repL z.cells.toList a.toNat).toArray e))) :=
 .new (mkv:=fun b=>.slice (some ⟨b,0,none⟩) a.toNat a.toNat) fun m w ac M T'=>by
  have e1:=(zAS M T' ex).int_inv;have e2:=(zAS M T' ey).int_inv;obtain⟨n,rfl⟩:=Int.eq_ofNat_of_zero_le h0;simp only[Int.toNat_natCast]at hn hb ⊢;have hn1:n<=65536:=Nat.le_trans (Nat.le_mul_of_pos_right n h1) hn;refine⟨.cells (repL z.cells.toList n).toArray e,none,fun b=>.slice (some ⟨b,0,none⟩) n n,w.alloc (.cells (repL z.cells.toList n).toArray e),?_,zBn _ _,World.alloc_heap_new w _,.cells (show LR m (repL z.cells.toList n) (repL z.cells.toList n) from (zCc hp).repL n),fun m' b n' e'=>.slice e'⟩
  have hbz:(i.bytes:Int) * (n:Int)<=281474976710656:=by
   have:i.bytes * n<=1048576:=by rw[Nat.mul_comm];exact hb
   have h3:((i.bytes * n:Nat):Int)<=((1048576:Nat):Int):=Int.ofNat_le.2 this;rw[Int.natCast_mul]at h3;omega
  have hz1:madeCells z.cells (n * i.size)=(repL z.cells.toList n).toArray:=Array.toList_inj.1 (by unfold madeCells;rw[zJn _ _ _ hs h1])
  have key:=run_makeSlice (P:=P) w T e i z hu hi hz .i64 .i64 (n:Int) (n:Int) (by omega) (Int.le_refl _) (by simp;omega) hbz (by omega)
  simp only[Int.toNat_natCast,hz1]at key;unfold execOp;simp only[ho,e1,e2,Sem.run_bind,key,Result.andThen_ok,Sem.run_pure]
def zDf (a:Act) (x:Option Operand) (dflt n:Nat):Prop:=(x=none/\n=dflt)\/∃ y k,x=some y/\a.eval y=.int k (n:Int)
theorem zGe {a:Act} {w:World} {is:Bool} {len cap l r:Nat} {lo hi:Option Operand} (hl:zDf a lo 0 l) (hh:zDf a hi len r) (h1:l<=r) (h2:r<=cap) :
  (Instr.sliceBounds is len cap (lo.map a.eval) (hi.map a.eval) none).run P w=.ok (l,r,cap) w:=by
 have a1:(0:Int)<=(r:Int)/\(r:Int)<=(cap:Int):=⟨by omega,by omega⟩
 have a2:(0:Int)<=(l:Int)/\(l:Int)<=(r:Int):=⟨by omega,by omega⟩
 rcases hl with ⟨rfl,rfl⟩|⟨y,k,rfl,e1⟩<;>rcases hh with ⟨rfl,rfl⟩|⟨y',k',rfl,e2⟩ <;>
  simp[Instr.sliceBounds,Instr.sliceBound,asIntOf,Sem.run_bind, *]
theorem zJk {m:NM} {w:World} {a:Act} (M:MT G m h w) (T':LR m t a.tmps.toList) {lo:Option Operand} {k:IntKind} {l:Int} (e:loA G t lo=some (.int k l)) (h0:0<=l):zDf a lo 0 l.toNat:=by
 cases lo with
 | none=>simp only[loA,Option.some.injEq,Value.int.injEq]at e;exact .inl ⟨rfl,by omega⟩
 | some y=>exact .inr ⟨y,k,rfl,by rw[(zAS M T' e).int_inv,Int.toNat_of_nonneg h0]⟩
theorem zJ9 {m:NM} {w:World} {a:Act} (M:MT G m h w) (T':LR m t a.tmps.toList) {u:Value} {hi:Option Operand} {k:IntKind} {r:Int} {len:Nat} (e:hiA G t u hi=some (.int k r)) (h0:0<=r) (hu:hiA G t u none=some (.int .i64 len)):zDf a hi len r.toNat:=by
 cases hi with
 | none=>rw[hu]at e;simp only[Option.some.injEq,Value.int.injEq]at e;exact .inl ⟨rfl,by omega⟩
 | some y=>exact .inr ⟨y,k,rfl,by rw[(zAS M T' e).int_inv,Int.toNat_of_nonneg h0]⟩
theorem zFC {a:Act} {w:World} {T e:TypeId} {sz len cap l r:Nat} {b:Option Addr} {lo hi:Option Operand} (hu:P.underlying T=some (.slice e)) (hs:zBi P e=some sz) (hl:zDf a lo 0 l) (hh:zDf a hi len r) (h1:l<=r) (h2:r<=cap) :
  (Instr.sliceAt T (.slice b len cap) (lo.map a.eval) (hi.map a.eval) none).run P w=.ok (.slice (if cap=l then b else b.map (·.add (l * sz))) (r - l) (cap - l)) w:=by
 obtain⟨i,hi',hin⟩:=Option.map_eq_some_iff.1 hs;have:=zGe (P:=P) (w:=w) (is:=true) (cap:=cap) hl hh h1 h2;simp[Instr.sliceAt,Instr.slice,Sem.run_bind,run_underlying hu,this,sizeOf,typeInfo,hi',hin]
theorem zLN {a:Act} {w:World} {T:TypeId} {q:ByteArray} {l r:Nat} {lo hi:Option Operand} (hu:P.underlying T=some .string) (hl:zDf a lo 0 l) (hh:zDf a hi q.size r) (h1:l<=r) (h2:r<=q.size) :
  (Instr.sliceAt T (.string q) (lo.map a.eval) (hi.map a.eval) none).run P w=.ok (.string (q.extract l r)) w:=by
 have:=zGe (P:=P) (w:=w) (is:=false) (cap:=q.size) hl hh h1 h2;simp[Instr.sliceAt,Instr.slice,Sem.run_bind,run_underlying hu,this]
theorem zMK {T:TypeId} {x:Operand} {lo hi:Option Operand} {q:ByteArray} {k k':IntKind} {l r:Int} (ho:o.op=.slice T x lo hi none) (ex:aev G t x=some (.string q)) (el:loA G t lo=some (.int k l)) (er:hiA G t (.string q) hi=some (.int k' r)) (h0:0<=l) (h1:l<=r) (hu:P.underlying T=some .string) (h2:r.toNat<=q.size) :
  OpD P G O o t h (.string (q.extract l.toNat r.toNat)) h :=
 .same fun m w a M T'=>by
  have e1:=(zAS M T' ex).string_inv;refine⟨_,?_,.string _⟩;unfold execOp;simp only[ho,e1,Sem.run_bind,Option.map_none,zLN (P:=P) (w:=w) hu (zJk M T' el h0) (zJ9 M T' er (by omega) rfl) (by omega) h2,Result.andThen_ok,Sem.run_pure]
theorem zLc {T e:TypeId} {x:Operand} {lo hi:Option Operand} {k k':IntKind} {l r:Int} {sz:Nat} (ho:o.op=.slice T x lo hi none) (ex:aev G t x=some (.slice none 0 0)) (el:loA G t lo=some (.int k l)) (er:hiA G t (.slice none 0 0) hi=some (.int k' r)) (h0:0<=l) (h1:l<=r) (hu:P.underlying T=some (.slice e)) (hs:zBi P e=some sz) (h2:r.toNat=0) :
  OpD P G O o t h (.slice none 0 0) h :=
 .same fun m w a M T'=>by
  have e1:=(zAS M T' ex).sliceN_inv.1;refine⟨.slice none 0 0,?_,.sliceN⟩;have h3:l.toNat=0:=by omega
  have:=zFC (P:=P) (w:=w) (a:=a) (b:=none) (cap:=0) hu hs (zJk M T' el h0) (zJ9 M T' er (by omega) rfl) (by omega) (by omega)
  rw[h2,h3]at this;unfold execOp;simp only[ho,e1,Sem.run_bind,Option.map_none,this,Result.andThen_ok,Sem.run_pure];simp
theorem zNB {T e:TypeId} {x:Operand} {lo hi:Option Operand} {k k':IntKind} {l r:Int} {sz b off n c:Nat} {cs:Array Value} {U:TypeId} {fr:Nat × Nat} (ho:o.op=.slice T x lo hi none) (ex:aev G t x=some (.slice (some ⟨b,off,none⟩) n c)) (el:loA G t lo=some (.int k l)) (er:hiA G t (.slice (some ⟨b,off,none⟩) n c) hi=some (.int k' r)) (h0:0<=l) (h1:l<=r) (hu:P.underlying T=some (.slice e)) (hs:zBi P e=some sz)
  (hg:h.get b=some (.o (.cells cs U fr))) (h2:r.toNat<=c):OpD P G O o t h (.slice (some ⟨b,cond (Nat.beq c l.toNat) off (off+l.toNat * sz),none⟩) (r.toNat - l.toNat) (c - l.toNat)) h :=
 .same fun m w a M T'=>by
  obtain⟨b',c',rr,e1,e2,e3⟩:=(zAS M T' ex).slice_inv;obtain⟨b2,r2,o',k1,k2,k3⟩:=M.obj b _ hg;rw[e2]at k1;cases k1
  cases k3
  rcases e3 with ⟨_,rfl⟩|⟨_,_,e,_⟩
  ·have:=zFC (P:=P) (w:=w) (a:=a) (b:=some ⟨b',off,none⟩) (cap:=c') hu hs (zJk M T' el h0) (zJ9 M T' er (by omega) rfl) (by omega) h2
   refine⟨_,?_,.slice e2⟩;unfold execOp;simp only[ho,e1,Sem.run_bind,Option.map_none,this,Result.andThen_ok,Sem.run_pure]
   by_cases hc:c'=l.toNat
   ·simp[hc]
   ·have:Nat.beq c' l.toNat=false:=by rw[Bool.eq_false_iff];intro h;rw[Nat.beq_eq]at h;exact hc h
    simp[hc,this,Addr.add_mid]
  ·cases e
theorem zM2 {T e:TypeId} {x:Operand} {lo hi:Option Operand} {k k':IntKind} {l r:Int} {sz b off n c:Nat} {cs:List Value} {U:TypeId} (ho:o.op=.slice T x lo hi none) (ex:aev G t x=some (.slice (some ⟨b,off,none⟩) n c)) (el:loA G t lo=some (.int k l)) (er:hiA G t (.slice (some ⟨b,off,none⟩) n c) hi=some (.int k' r)) (h0:0<=l) (h1:l<=r) (hu:P.underlying T=some (.slice e)) (hs:zBi P e=some sz)
  (hg:h.get b=some (.row cs U sz)) (h2:r.toNat<=n) (h3:l.toNat<n):OpD P G O o t h (.slice (some ⟨b,off+l.toNat * sz,none⟩) (r.toNat - l.toNat) 0) h :=
 .same fun m w a M T'=>by
  obtain⟨b',c',rr,e1,e2,e3⟩:=(zAS M T' ex).slice_inv;obtain⟨b2,r2,o',k1,k2,k3⟩:=M.obj b _ hg;rw[e2]at k1;cases k1
  cases k3 with
  | @row _ cur _ _ K _ _ _ _ _ =>
   rcases e3 with ⟨e,_⟩|⟨sz',K',e,hc,hl⟩
   ·cases e
   ·cases e
    have:=zFC (P:=P) (w:=w) (a:=a) (b:=some ⟨b',off,none⟩) (cap:=c') hu hs (zJk M T' el h0) (zJ9 M T' er (by omega) rfl) (by omega) (by omega)
    refine⟨.slice (some ⟨b',off+l.toNat * sz,none⟩) (r.toNat - l.toNat) (c' - l.toNat),?_,.row e2 ?_ (by omega)⟩
    ·unfold execOp;simp only[ho,e1,Sem.run_bind,Option.map_none,this,Result.andThen_ok,Sem.run_pure];have:¬ c'=l.toNat:=by omega
     simp[this,Addr.add_mid]
    ·rw[Nat.sub_mul];have:l.toNat * sz<=c' * sz:=Nat.mul_le_mul_right _ (by omega)
     omega
theorem zDK {a:Act} {w w':World} {b:Builtin} {xs:Array Operand} {ts:Array TypeId} {s:Sem Value} {v:Value} (ho:o.op=.call {callee:=.builtin b,args:=xs,argTypes:=ts}) (hb:builtin b ts o.type (xs.map fun|.const _=>true|_=>false) (xs.map a.eval)=(do pure (.value (← s)))) (hr:s.run P w=.ok v w') :
  (execOp a.eval o).run P w=.ok (.value v) w':=by
 unfold execOp;simp only[ho,resolve,Sem.run_bind,Sem.run_pure,Result.andThen_ok,invoke]
 erw [hb]
 simp only[Sem.run_bind,hr,Result.andThen_ok,Sem.run_pure]
theorem zFd {α:Type} {a:Array α} {x:α} {r:List α} (h:a.toList=x::r):a[0]?=some x:=by rw[← Array.getElem?_toList,h];rfl
theorem zPm {w:World} {ts:Array TypeId} {xs:Array Value} {ty T:TypeId} {u:Value} {d:TypeDesc} {n:Nat} (ht:ts[0]?=some T) (hx:xs[0]?=some u) (hu:P.underlying T=some d)
  (k:(d=.string/\∃ q,u=.string q/\n=q.size)\/(∃ e,d=.slice e/\∃ b c,u=.slice b n c)\/(∃ e,d=.array n e)\/(∃ a e,d=.map a e/\((u=.map none/\n=0)\/∃ b es c,u=.map (some b)/\w.heap[b]?=some (.map es c)/\n=es.size))) :
  (Builtin.len_ ts ty xs).run P w=.ok (.int .i64 n) w:=by
 unfold Builtin.len_;rcases k with ⟨rfl,q,rfl,rfl⟩|⟨e,rfl,b,c,rfl⟩|⟨e,rfl⟩|⟨a,e,rfl,⟨rfl,rfl⟩|⟨b,es,c,rfl,hb,rfl⟩⟩
 ·simp[ht,hx,Sem.run_bind,run_underlying hu,goInt]
 ·simp[ht,hx,Sem.run_bind,run_underlying hu,goInt]
 ·simp[ht,hx,Sem.run_bind,run_underlying hu,goInt]
 ·simp[ht,hx,Sem.run_bind,run_underlying hu,goInt]
 ·simp[ht,hx,Sem.run_bind,run_underlying hu,goInt,getObj,Sem.run,hb]
theorem zGB {ts:Array TypeId} {xs:Array Operand} {T:TypeId} {tr:List TypeId} {x:Operand} {xr:List Operand} {u:Value} {d:TypeDesc} {n:Nat} (ho:o.op=.call {callee:=.builtin .len,args:=xs,argTypes:=ts}) (ht:ts.toList=T::tr) (hx:xs.toList=x::xr) (ex:aev G t x=some u) (hu:P.underlying T=some d)
  (k:(d=.string/\∃ q,u=.string q/\n=q.size)\/(∃ e,d=.slice e/\∃ b c,u=.slice b n c)\/(∃ e,d=.array n e)\/(∃ a e,d=.map a e/\((u=.map none/\n=0)\/∃ b es c,u=.map (some b)/\h.get b=some (.o (.map es c))/\n=es.size))):OpD P G O o t h (.int .i64 n) h :=
 .same fun m w a M T'=>by
  have h1:=zAS M T' ex;refine⟨_,zDK ho rfl (zPm (u:=a.eval x) (d:=d) (zFd ht) (by rw[Array.getElem?_map,zFd hx];rfl) hu ?_),.int _ _⟩
  rcases k with ⟨hd,q,rfl,hn⟩|⟨e,hd,b,c,rfl⟩|⟨e,hd⟩|⟨a',e,hd,⟨rfl,hn⟩|⟨b,es,c,rfl,hb,hn⟩⟩
  ·exact .inl ⟨hd,q,h1.string_inv,hn⟩
  ·refine .inr (.inl ⟨e,hd,?_⟩)
   generalize a.eval x=q at h1
   cases h1<;>exact⟨_,_,rfl⟩
  ·exact .inr (.inr (.inl ⟨e,hd⟩))
  ·refine .inr (.inr (.inr ⟨a',e,hd,.inl ⟨?_,hn⟩⟩))
   generalize a.eval x=q at h1
   cases h1;rfl
  ·obtain⟨b',e1,e2⟩:=h1.map_inv;obtain⟨b2,r2,o',k1,k2,k3⟩:=M.obj b _ hb;rw[e2]at k1;cases k1
   cases k3 with
   | @map _ es' _ hE =>
    refine .inr (.inr (.inr ⟨a',e,hd,.inr ⟨_,_,_,e1,k2,?_⟩⟩));rw[hn];have:∀ {l l':List MapEntry},ER m l l'->l.length=l'.length:=by
     intro l l' hE
     induction hE with
     | nil=>rfl
     | cons _ _ _ _ _ ih=>simp[ih]
    simpa using this hE
theorem zF6 {m:NM}:∀ {l l':List Value},l.all plain=true->LR m l l'->l'=l
 | [],_,_,.nil=>rfl
 | a::l,_,h,.cons h1 h2=>by
  simp only[List.all_cons,Bool.and_eq_true]at h;rw[zDp h.1 h1,zF6 h.2 h2]
theorem zMl {b:Builtin} {ts:Array TypeId} {xs:Array Operand} {l:List Value} {f:Array TypeId->TypeId->Array Value->Sem Value} (ho:o.op=.call {callee:=.builtin b,args:=xs,argTypes:=ts}) (hb:∀ c a,builtin b ts o.type c a=(do pure (.value (← f ts o.type a)))) (el:aevs G t xs.toList=some l) (hp:l.all plain=true) (e:zBs P (f ts o.type l.toArray)=some v) (hv:plain v=true):OpD P G O o t h v h :=
 .same fun m w a M T'=>by
  have h1:=zF6 hp (zD7 M T' el);have h2:xs.map a.eval=l.toArray:=Array.toList_inj.1 (by simpa using h1)
  exact⟨v,zDK ho (hb _ _) (by rw[h2];exact zCL _ e w),zBq hv⟩
end
section
variable {P:Program} {G:Nat} {O:Orc} {o:Oper} {t:List Value} {h h':AH} {v:Value}
theorem zKE {m:NM} {w:World} (M:MT G m h w) {sz:Nat} {u u':Value} {new:List Value} (hu:VR m u u') (e:srcA h sz u=some new) (hs:1<=sz) :
  ∃ k c',(u'=.slice none 0 0/\new=[]/\k=0)\/∃ b off,u'=.slice (some ⟨b,off,none⟩) k c'/\new.length=k * sz/\∃ l',LR m new l'/\∀ (j:Nat) (x:Value),l'[j]?=some x->w.cell? ⟨b,off+j,none⟩=some x:=by
 unfold srcA at e;split at e
 ·cases e
  exact⟨0,0,.inl ⟨hu.sliceN_inv.1,rfl,rfl⟩⟩
 ·rename_i b off k c;obtain⟨b',c',r,h1,h2,_⟩:=hu.slice_inv;obtain⟨h3,l',h4,h5⟩:=zMA M h2 e;exact⟨k,c',.inr ⟨b',off,h1,h3,l',h4,h5⟩⟩
 ·cases e
theorem zCg {a:Act} {w w':World} {xs:Array Operand} {ts:Array TypeId} {T:TypeId} {x y:Operand} {v:Value} (ho:o.op=.call {callee:=.builtin .append,args:=xs,argTypes:=ts}) (ht:ts.toList=[T,T]) (hx:xs.toList=[x,y]) (hr:(Builtin.append_ #[T,T] o.type #[a.eval x,a.eval y]).run P w=.ok v w'):(execOp a.eval o).run P w=.ok (.value v) w':=by
 have e1:ts=#[T,T]:=Array.toList_inj.1 (by simpa using ht)
 have e2:xs=#[x,y]:=Array.toList_inj.1 (by simpa using hx)
 subst e1 e2;exact zDK ho rfl (by simpa using hr)
theorem zF3 {T e ty:TypeId} {i:TypeInfo} {w:World} {b:Option Addr} {n c c2:Nat} {x:Value} {src:Option Addr} (hu:P.underlying T=some (.slice e)) (hi:P.info? e=some i) (hn:n<=c) (hx:x=.slice src 0 c2) :
  (Builtin.append_ #[T,T] ty #[.slice b n c,x]).run P w=.ok (.slice b n c) w:=by
 subst hx;have hf:(Builtin.firstCells i.size 0 (.slice src 0 c2)).run P w=.ok #[] w:=by
  cases src with
  | none=>simp[Builtin.firstCells]
  | some a=>simp[Builtin.firstCells,loadCells,loadCellsFrom]
 unfold Builtin.append_
 cases b with
 | none=>simp[Sem.run_bind,run_underlying hu,sizeOf,typeInfo,hi,Builtin.lenOf,hn,hf]
 | some a=>simp[Sem.run_bind,run_underlying hu,sizeOf,typeInfo,hi,Builtin.lenOf,hn,hf,storeCells]
theorem zK9 {ts:Array TypeId} {xs:Array Operand} {T e:TypeId} {x y:Operand} {n c:Nat} {base:Option Addr} {src:Value} {i:TypeInfo} (ho:o.op=.call {callee:=.builtin .append,args:=xs,argTypes:=ts}) (ht:ts.toList=[T,T]) (hx:xs.toList=[x,y]) (ex:aev G t x=some (.slice base n c)) (ey:aev G t y=some src) (hu:P.underlying T=some (.slice e)) (hi:P.info? e=some i) (h1:1<=i.size)
  (es:srcA h i.size src=some []) (hb:(base=none/\n=0)\/∃ b off,base=some ⟨b,off,none⟩/\((∃ p q r,h.get b=some (.row p q r))\/((∃ p q r,h.get b=some (.o (.cells p q r)))/\n<=c))):OpD P G O o t h (.slice base n c) h :=
 .same fun m w a M T'=>by
  have e1:=zAS M T' ex;obtain⟨k,c2,hk⟩:=zKE M (zAS M T' ey) es h1;have hsrc:∃ s2 c3,a.eval y=.slice s2 0 c3:=by
   rcases hk with ⟨h2,_,_⟩|⟨b,off,h2,h3,_⟩
   ·exact⟨none,0,h2⟩
   ·simp only[List.length_nil]at h3;have:k=0:=by
     rcases Nat.mul_eq_zero.1 h3.symm with h|h
     ·exact h
     ·omega
    subst this;exact⟨_,_,h2⟩
  obtain⟨s2,c3,hsrc⟩:=hsrc;rcases hb with ⟨rfl,rfl⟩|⟨b,off,rfl,hb⟩
  ·obtain⟨e2,_,rfl⟩:=e1.sliceN_inv;exact⟨.slice none 0 0,zCg ho ht hx (by rw[e2];exact zF3 hu hi (Nat.le_refl _) hsrc),.sliceN⟩
  ·obtain⟨b',c',r,e2,e3,e4⟩:=e1.slice_inv;have hn:n<=c':=by
    rcases e4 with ⟨rfl,rfl⟩|⟨_,_,_,_,hl⟩
    ·rcases hb with ⟨p,q,s,hg⟩|⟨_,hn⟩
     ·obtain⟨b2,r2,o',k1,k2,k3⟩:=M.obj b _ hg;rw[e3]at k1;cases k1
      cases k3
     ·exact hn
    ·exact hl
   exact⟨.slice (some ⟨b',off,none⟩) n c',zCg ho ht hx (by rw[e2];exact zF3 hu hi hn hsrc),by rw[← e2];exact e1⟩
theorem zL4 {m:NM} {w:World} {e:TypeId} {sz n:Nat} {v:Value} {xs cs:List Value} (h:w.ownsRow 0 e sz v n xs) (hn:0<n) (h0:0<sz) (hc:LR m cs xs):∃ g K,v=.slice (some ⟨g,0,none⟩) n K/\v.ownBlock=some g/\n<=K/\∃ o',w.heap[g]?=some o'/\OR m (.row cs e sz) (some (sz,K)) o':=by
 obtain⟨hl,⟨rfl,rfl⟩|⟨g,cap,cur,rfl,hb,hg,hnc,hcm,hs,ht⟩⟩:=h
 ·omega
 ·have hm:n * sz<=cap * sz:=Nat.mul_le_mul_right _ hnc;exact⟨g,cap,rfl,rfl,hnc,_,hg,.row hs (by rw[hc.len,hl,hs];exact hm) (by rw[hc.len,hl,ht];exact hc) h0 hcm⟩
theorem zKa {ts:Array TypeId} {xs:Array Operand} {T e:TypeId} {x y:Operand} {c:Nat} {src:Value} {i:TypeInfo} {z:Value} {new:List Value} (ho:o.op=.call {callee:=.builtin .append,args:=xs,argTypes:=ts}) (ht:ts.toList=[T,T]) (hx:xs.toList=[x,y]) (ex:aev G t x=some (.slice none 0 c)) (ey:aev G t y=some src) (hu:P.underlying T=some (.slice e)) (hi:P.info? e=some i) (hz:i.zero=some z) (hzs:z.cells.size=i.size) (h1:1<=i.size)
  (es:srcA h i.size src=some new) (hne:new.length≠0) (hone:new.all (·.oneCell')=true) (hb:new.length * i.bytes<=1048576) (hl:new.length<=65536):OpD P G O o t h (.slice (some ⟨h.next,0,none⟩) (new.length / i.size) 0) (h.new (.row new e i.size)):=by
 refine⟨by first|exact Keep.new _ _|exact Keep.put hg (by assumption) _|exact Keep.row hg (by assumption) _,?_⟩
 intro m w a M F T';have e1:=(zAS M T' ex).sliceN_inv.1;obtain⟨k,c2,hk⟩:=zKE M (zAS M T' ey) es h1;rcases hk with ⟨_,rfl,_⟩|⟨b,off,h2,h3,l',h4,h5⟩
 ·exact absurd rfl hne
 ·have hkl:k<=new.length:=by rw[h3];exact Nat.le_mul_of_pos_right _ h1
  have hk0:0<k:=by
   rcases Nat.eq_zero_or_pos k with h|h
   ·rw[h,Nat.zero_mul]at h3;exact absurd h3 hne
   ·exact h
  have hll:=h4.len;obtain⟨v',w',r1,r2,r3,r4,r5⟩:=run_append_own_at (P:=P) w 0 T o.type e i z i.size i.bytes hu hi hz rfl rfl hzs h1 (.slice none 0 0) 0 [] ⟨by simp,.inl ⟨rfl,rfl⟩⟩ ⟨b,off,none⟩ k c2 l' (by rw[← hll,h3])
   (fun j u hj=>by rw[Addr.add_mid];exact h5 j u hj) (fun u hu'=>List.all_eq_true.1 (by rw[h4.one];exact hone) u hu') (by simp only[maxLen];omega) (by
    have:(0+k) * i.bytes<=new.length * i.bytes:=Nat.mul_le_mul_right _ (by omega)
    omega) (Nat.zero_le _)
  rw[Nat.zero_add,List.nil_append]at r2;obtain⟨g,K,hv',hob,hnK,o',hg,hO⟩:=zL4 (m:=m) r2 hk0 h1 h4;have hgs:g=w.heap.size:=by
   rcases r5 with h|h
   ·rw[hob]at h;cases h
   ·rw[hob]at h;cases h;rfl
  subst hgs;obtain⟨q1,q2,q3,q4⟩:=zEk M F (o:=.row new e i.size) (r:=some (i.size,K)) (by simpa [Value.ownBlock] using r3) hg hO
  refine⟨_,v',w',_,zCg ho ht hx (by rw[e1,h2];exact r1),.inl rfl,q2,q3,?_⟩
  rw[hv',show new.length / i.size=k from by rw[h3];exact Nat.mul_div_cancel _ h1]
  exact .row q4 (by omega) hnK
theorem zK7 {ts:Array TypeId} {xs:Array Operand} {T e:TypeId} {x y:Operand} {n c b:Nat} {cs:List Value} {src:Value} {i:TypeInfo} {z:Value} {new:List Value} (ho:o.op=.call {callee:=.builtin .append,args:=xs,argTypes:=ts}) (ht:ts.toList=[T,T]) (hx:xs.toList=[x,y]) (ex:aev G t x=some (.slice (some ⟨b,0,none⟩) n c)) (ey:aev G t y=some src) (hu:P.underlying T=some (.slice e)) (hi:P.info? e=some i) (hz:i.zero=some z) (hzs:z.cells.size=i.size) (h1:1<=i.size)
  (es:srcA h i.size src=some new) (hne:new.length≠0) (hone:new.all (·.oneCell')=true) (hb:(n+new.length) * i.bytes<=1048576) (hl:n+new.length<=65536) (hg:h.get b=some (.row cs e i.size)) (hcs:cs.length=n * i.size) (hf:h.floor<=b):OpD P G O o t h (.slice (some ⟨h.next,0,none⟩) (n+new.length / i.size) 0) ((h.drop b).new (.row (cs++new) e i.size)):=by
 refine⟨by first|exact Keep.new _ _|exact Keep.put hg (by assumption) _|exact Keep.row hg (by assumption) _,?_⟩
 intro m w a M F T';obtain⟨b',c',r,e1,e2,e3⟩:=(zAS M T' ex).slice_inv;obtain⟨k,c2,hk⟩:=zKE M (zAS M T' ey) es h1;obtain⟨b2,r2,o0,k1,k2,k3⟩:=M.obj b _ hg;rw[e2]at k1;cases k1
 cases k3 with
 | @row _ cur _ _ K hs hlen hL h0 hK =>
  rcases e3 with ⟨h,_⟩|⟨sz',K',hh,hc,hnl⟩
  ·cases h
  ·cases hh
   have hcK:c'=K:=Nat.eq_of_mul_eq_mul_right h0 (by omega)
   subst hcK;rcases hk with ⟨_,rfl,_⟩|⟨sb,off,h2,h3,l',h4,h5⟩
   ·exact absurd rfl hne
   ·have hkl:k<=new.length:=by rw[h3];exact Nat.le_mul_of_pos_right _ h1
    have hk0:0<k:=by
     rcases Nat.eq_zero_or_pos k with h|h
     ·rw[h,Nat.zero_mul]at h3;exact absurd h3 hne
     ·exact h
    have hll:=h4.len;rw[hcs]at hL;have hown:w.ownsRow 0 e i.size (.slice (some ⟨b',0,none⟩) n c') n (cur.toList.take (n * i.size)):=by
     refine⟨?_,.inr ⟨b',c',cur,rfl,Nat.zero_le _,k2,hnl,hK,hs,rfl⟩⟩;rw[← hL.len,hcs]
    obtain⟨v',w',r1,r2,r3,r4,r5⟩:=run_append_own_at (P:=P) w 0 T o.type e i z i.size i.bytes hu hi hz rfl rfl hzs h1 _ n _ hown ⟨sb,off,none⟩ k c2 l' (by rw[← hll,h3])
     (fun j u hj=>by rw[Addr.add_mid];exact h5 j u hj) (fun u hu'=>List.all_eq_true.1 (by rw[h4.one];exact hone) u hu') (by simp only[maxLen];omega) (by
      have:(n+k) * i.bytes<=(n+new.length) * i.bytes:=Nat.mul_le_mul_right _ (by omega)
      omega) (Nat.zero_le _)
    obtain⟨g,K2,hv',hob,hnK,o',hg',hO⟩:=zL4 (m:=m) r2 (by omega) h1 (hL.append h4)
    have hgs:g=b'\/g=w.heap.size:=by
     rcases r5 with h|h
     ·rw[hob]at h;cases h;exact .inl rfl
     ·rw[hob]at h;cases h;exact .inr rfl
    obtain⟨q2,q3,q4⟩:=zOQ M F hg hf e2 (by simpa [Value.ownBlock] using r3) hgs hg' hO
    refine⟨_,v',w',_,zCg ho ht hx (by rw[e1,h2];exact r1),.inl rfl,q2,q3,?_⟩
    rw[hv',show new.length / i.size=k from by rw[h3];exact Nat.mul_div_cancel _ h1]
    exact .row q4 (by omega) hnK
theorem zKs {ts:Array TypeId} {xs:Array Operand} {T e:TypeId} {x y:Operand} {n b:Nat} {cs:Array Value} {fr:Nat × Nat} {src:Value} {i:TypeInfo} {z:Value} {new:List Value} (ho:o.op=.call {callee:=.builtin .append,args:=xs,argTypes:=ts}) (ht:ts.toList=[T,T]) (hx:xs.toList=[x,y]) (ex:aev G t x=some (.slice (some ⟨b,0,none⟩) n n)) (ey:aev G t y=some src) (hu:P.underlying T=some (.slice e)) (hi:P.info? e=some i) (hz:i.zero=some z) (hzs:z.cells.size=i.size) (h1:1<=i.size)
  (es:srcA h i.size src=some new) (hne:new.length≠0) (hone:new.all (·.oneCell')=true) (hb:(n+new.length) * i.bytes<=1048576) (hl:n+new.length<=65536) (hg:h.get b=some (.o (.cells cs e fr))) (hcs:cs.size=n * i.size):OpD P G O o t h (.slice (some ⟨h.next,0,none⟩) (n+new.length / i.size) 0) (h.new (.row (cs.toList++new) e i.size)):=by
 refine⟨by first|exact Keep.new _ _|exact Keep.put hg (by assumption) _|exact Keep.row hg (by assumption) _,?_⟩
 intro m w a M F T';obtain⟨b',c',r,e1,e2,e3⟩:=(zAS M T' ex).slice_inv;obtain⟨k,c2,hk⟩:=zKE M (zAS M T' ey) es h1;obtain⟨b2,r2,o0,k1,k2,k3⟩:=M.obj b _ hg;rw[e2]at k1;cases k1
 cases k3 with
 | @cells _ cur _ _ hL =>
  rcases e3 with ⟨_,rfl⟩|⟨_,_,hh,_⟩
  ·rcases hk with ⟨_,rfl,_⟩|⟨sb,off,h2,h3,l',h4,h5⟩
   ·exact absurd rfl hne
   ·have hkl:k<=new.length:=by rw[h3];exact Nat.le_mul_of_pos_right _ h1
    have hk0:0<k:=by
     rcases Nat.eq_zero_or_pos k with h|h
     ·rw[h,Nat.zero_mul]at h3;exact absurd h3 hne
     ·exact h
    have hll:=h4.len;have hcur:cur.toList.length=c' * i.size:=by rw[← hL.len];simpa using hcs
    have hge:=grownCap_ge w (c'+k) c' e;have hle:=grownCap_le_maxLen w (c'+k) c' e (by simp only[maxLen];omega)
    have key:=run_append_grow (P:=P) w T o.type e i z hu hi hz ⟨b',0,none⟩ c' c' cur.toList hcur (fun j v hj=>by
     rw[Addr.add_mid,cell_of_row w b' (0+j) cur e fr k2,Nat.zero_add,← Array.getElem?_toList];exact hj) ⟨sb,off,none⟩ k c2 l' (by rw[← hll,h3]) (fun j u hj=>by rw[Addr.add_mid];exact h5 j u hj) (by omega) (by omega) (by
      refine growslice_fits (by omega) ?_
      have:(c'+k) * i.bytes<=(c'+new.length) * i.bytes:=Nat.mul_le_mul_right _ (by omega)
      omega)
    obtain⟨K,hK⟩:∃ K,grownCap w (c'+k) c' e=K:=⟨_,rfl⟩;rw[hK]at key hge hle;have hLL:=hL.append h4;have hrow:OR m (.row (cs.toList++new) e i.size) (some (i.size,K)) (.cells (cur.toList.toArray++l'.toArray++Builtin.zeroCells z.cells (K - (c'+k))) e (0,0)):=by
     have hsz:(cur.toList.toArray++l'.toArray++Builtin.zeroCells z.cells (K - (c'+k))).size=K * i.size:=by
      simp only[Array.size_append,List.size_toArray,size_zeroCells,hzs,hcur,← hll,h3,← Nat.add_mul];rw[Nat.add_sub_cancel' hge]
     refine .row hsz ?_ ?_ h1 hle
     ·rw[hsz,hLL.len,List.length_append,hcur,← hll,h3,← Nat.add_mul];exact Nat.mul_le_mul_right _ hge
     ·rw[hLL.len];simp only[Array.toList_append];rw[List.take_left']
      ·exact hLL
      ·simp
    obtain⟨q1,q2,q3,q4⟩:=zEk M F (w':=w.drew.alloc (.cells (cur.toList.toArray++l'.toArray++Builtin.zeroCells z.cells (K - (c'+k))) e)) ⟨rfl,rfl,rfl,by simp,fun k hk _=>heap_alloc_old w.drew _ k hk⟩ (heap_alloc_new w.drew _) hrow
    refine⟨_,_,_,_,zCg ho ht hx (by rw[e1,h2];exact key),.inl rfl,q2,q3,?_⟩
    rw[show new.length / i.size=k from by rw[h3];exact Nat.mul_div_cancel _ h1]
    exact .row q4 (by omega) hge
  ·cases hh
theorem ER.len {m:NM} {l l':List MapEntry} (hE:ER m l l'):l.length=l'.length:=by
 induction hE with
 | nil=>rfl
 | cons _ _ _ _ _ ih=>simp[ih]
theorem zLg {m:NM} {d:TypeDesc} {k:Value} {l l':List MapEntry} (hE:ER m l l'):∀ {i:Nat} {r:Option (Nat × Value)},Instr.findNow d k l i=some r->(r=none/\Instr.findNow d k l' i=some none)\/∃ j u u',r=some (j,u)/\Instr.findNow d k l' i=some (some (j,u'))/\VR m u u':=by
 induction hE with
 | nil=>intro i r e;simp[Instr.findNow]at e;subst e;exact .inl ⟨rfl,rfl⟩
 | cons hk hk' hv hb _ ih =>
  intro i r e;simp only[Instr.findNow,hk']at e ⊢;split at e
  ·cases e;exact .inr ⟨_,_,_,rfl,rfl,hv⟩
  ·exact ih e
  ·cases e
theorem zIY {T kt e:TypeId} {x y:Operand} {ok:Bool} {xv k u:Value} {es:Array MapEntry} {d:TypeDesc} {fr:Option (Nat × Value)} (ho:o.op=.lookup T x y ok) (ex:aev G t x=some xv) (ey:aev G t y=some k) (hu:P.underlying T=some (.map kt e)) (hd:P.underlying kt=some d) (hm:mapA h xv=some es) (hp:plain k=true) (hc:(zBs P (Instr.checkKey es.isEmpty 10000 kt k)).isSome=true)
  (hf:Instr.findNow d k es.toList 0=some fr) (hr:(∃ j,fr=some (j,u))\/(fr=none/\(P.info? e).bind (·.zero)=some u/\plain u=true)):OpD P G O o t h (cond ok (.tuple #[u,.bool fr.isSome]) u) h :=
 .same fun m w a M T'=>by
  have h1:=zAS M T' ex;have h2:=zDp hp (zAS M T' ey);obtain⟨c,hc⟩:=Option.isSome_iff_exists.1 hc;have hes:∃ es',ER m es.toList es'.toList/\((a.eval x=.map none/\es'=#[])\/∃ b cl,a.eval x=.map (some b)/\w.heap[b]?=some (.map es' cl)):=by
   unfold mapA at hm;split at hm
   ·cases hm
    generalize a.eval x=q at h1
    cases h1
    exact⟨#[],.nil,.inl ⟨rfl,rfl⟩⟩
   ·rename_i b;split at hm
    ·rename_i es0 cl hg
     cases hm
     obtain⟨b',e1,e2⟩:=h1.map_inv;obtain⟨b2,r2,o',k1,k2,k3⟩:=M.obj b _ hg;rw[e2]at k1;cases k1
     cases k3 with
     | @map _ es' _ hE=>exact⟨es',hE,.inr ⟨_,_,e1,k2⟩⟩
    ·cases hm
   ·cases hm
  obtain⟨es',hE,hx⟩:=hes;have hemp:es'.isEmpty=es.isEmpty:=by
   have:=hE.len;simp at this;simp[Array.isEmpty,this]
  have hcheck:(Instr.checkKey es'.isEmpty 10000 kt k).run P w=.ok c w:=by rw[hemp];exact zCL _ hc w
  have hres:∃ fr' u',Instr.findNow d k es'.toList 0=some fr'/\VR m u u'/\((∃ j,fr'=some (j,u')/\fr=some (j,u))\/(fr'=none/\fr=none/\(P.info? e).bind (·.zero)=some u')):=by
   rcases zLg hE hf with ⟨rfl,h3⟩|⟨j,u1,u',rfl,h3,h4⟩
   ·rcases hr with ⟨j,hj⟩|⟨_,hz,hpu⟩
    ·cases hj
    ·exact⟨none,u,h3,zBq hpu,.inr ⟨rfl,rfl,hz⟩⟩
   ·rcases hr with ⟨j',hj⟩|⟨hj,_⟩
    ·cases hj
     exact⟨_,u',h3,h4,.inl ⟨j,rfl,rfl⟩⟩
    ·cases hj
  obtain⟨fr',u',h3,h4,h5⟩:=hres;have hfk:(Instr.findKey kt k es'.toList).run P w=.ok fr' w:=by
   simp[Instr.findKey,Sem.run_bind,run_underlying hd,h3]
  have key:(Instr.lookup T (a.eval x) k ok).run P w=.ok (cond ok (.tuple #[u',.bool fr.isSome]) u') w:=by
   unfold Instr.lookup;rcases hx with ⟨e1,rfl⟩|⟨b,cl,e1,hb⟩
   ·rcases h5 with ⟨j,rfl,rfl⟩|⟨rfl,rfl,hz⟩
    ·simp[Instr.findNow]at h3
    ·obtain⟨i,hi,hz⟩:=Option.bind_eq_some_iff.1 hz;rw[e1];simp only[List.isEmpty_toArray,List.isEmpty_nil]at hcheck hfk
     cases ok<;>simp[Sem.run_bind,run_underlying hu,hcheck,hfk,zeroValue,typeInfo,hi,hz]
   ·rcases h5 with ⟨j,rfl,rfl⟩|⟨rfl,rfl,hz⟩
    ·rw[e1]
     cases ok<;>simp[Sem.run_bind,run_underlying hu,getObj,Sem.run,hb,hcheck,hfk]
    ·obtain⟨i,hi,hz⟩:=Option.bind_eq_some_iff.1 hz;rw[e1]
     cases ok<;>simp[Sem.run_bind,run_underlying hu,getObj,Sem.run,hb,hcheck,hfk,zeroValue,typeInfo,hi,hz]
  refine⟨cond ok (.tuple #[u',.bool fr.isSome]) u',?_,?_⟩
  ·unfold execOp;simp only[ho,h2,Sem.run_bind,key,Result.andThen_ok,Sem.run_pure]
  ·cases ok
   ·exact h4
   ·exact VR.tupL (a:=[u,_]) (a':=[u',_]) (.cons h4 (.cons (.bool _) .nil))
theorem zLz {T kt e:TypeId} {x y z:Operand} {b cl:Nat} {k u:Value} {es:Array MapEntry} {d:TypeDesc} (ho:o.op=.insert T x y z\/o.op=.mapUpdate T x y z) (ex:aev G t x=some (.map (some b))) (ey:aev G t y=some k) (ez:aev G t z=some u) (hu:P.underlying T=some (.map kt e)) (hd:P.underlying kt=some d) (hg:h.get b=some (.o (.map es cl))) (hp:zBR k=true) (hc:(zBs P (Instr.checkKey false 10000 kt k)).isSome=true) (hfl:h.floor<=b)
  (hf:Instr.findNow d k es.toList 0=some none):OpD P G O o t h undef (h.put b (.o (.map (es.push {key:=k,val:=u,born:=cl}) (cl+1)))):=by
 refine⟨by first|exact Keep.new _ _|exact Keep.put hg (by assumption) _|exact Keep.row hg (by assumption) _,?_⟩
 intro m w a M F T';obtain⟨b',e1,e2⟩:=(zAS M T' ex).map_inv;have h2:=zDb hp (zAS M T' ey);have h3:=zAS M T' ez;obtain⟨c,hc⟩:=Option.isSome_iff_exists.1 hc;obtain⟨b2,r2,o',k1,k2,k3⟩:=M.obj b _ hg;rw[e2]at k1;cases k1
 cases k3 with
 | @map _ es' _ hE =>
  have hf':Instr.findNow d k es'.toList 0=some none:=by
   rcases zLg hE hf with ⟨_,h4⟩|⟨j,u1,u',hh,_⟩
   ·exact h4
   ·cases hh
  have hlt:=(Array.getElem?_eq_some_iff.1 k2).1;have key:(Instr.mapUpdate T (.map (some b')) k (a.eval z)).run P w=.ok () (w.putObj b' (.map (es'.push {key:=k,val:=a.eval z,born:=cl}) (cl+1))):=by
   simp[Instr.mapUpdate,Sem.run_bind,run_underlying hu,getObj,setObj,Sem.run,k2,zCL _ hc w,Instr.findKey,run_underlying hd,hf',World.putObj]
  have hER:ER m (es.push {key:=k,val:=u,born:=cl}).toList (es'.push {key:=k,val:=a.eval z,born:=cl}).toList:=by
   simp only[Array.toList_push];have:∀ {l l':List MapEntry},ER m l l'->ER m (l++[{key:=k,val:=u,born:=cl}]) (l'++[{key:=k,val:=a.eval z,born:=cl}]):=by
    intro l l' hE
    induction hE with
    | nil=>exact .cons hp rfl h3 rfl .nil
    | cons p1 p2 p3 p4 _ ih=>exact .cons p1 p2 p3 p4 ih
   exact this hE
  have hw:w.grownBy (w.putObj b' (.map (es'.push {key:=k,val:=a.eval z,born:=cl}) (cl+1))) (some b') :=
   ⟨rfl,rfl,rfl,by simp[World.putObj],fun j hj hne=>World.putObj_heap_other (fun e=>hne (by rw[e]))⟩
  obtain⟨q1,q2⟩:=zCo M hg hfl e2 hw (World.putObj_heap_same hlt) (.map hER);refine⟨m,undef,_,.skip,?_,.inr ⟨rfl,rfl⟩,q1,q2,.undef⟩;unfold execOp;rcases ho with ho|ho<;>simp only[ho,e1,h2,Sem.run_bind,key,Result.andThen_ok,Sem.run_pure]
theorem zIt {S D e:TypeId} {x:Operand} {b off n c:Nat} {l:List Value} {q:List UInt8} (ho:o.op=.convert S D x) (ex:aev G t x=some (.slice (some ⟨b,off,none⟩) n c)) (hs:P.underlying S=some (.slice e)) (hd:P.underlying D=some .string) (he:P.underlying e=some (.int .u8)) (hl:h.seg b off n=some l) (hq:zEH l=some q):OpD P G O o t h (.string ⟨q.toArray⟩) h :=
 .same fun m w a M T'=>by
  obtain⟨b',c',r,e1,e2,_⟩:=(zAS M T' ex).slice_inv;obtain⟨h3,l',h4,h5⟩:=zMA M e2 hl;refine⟨.string ⟨q.toArray⟩,?_,.string _⟩;have hints:∀ {l l':List Value} {q:List UInt8},zEH l=some q->LR m l l'->∃ ns:List Int,l'=ns.map (Value.int .u8)/\ns.foldl (fun r n=>r.push (UInt8.ofNat n.toNat)) ByteArray.empty=⟨q.toArray⟩/\ns.map (fun n=>UInt8.ofNat n.toNat)=q:=by
   intro l l' q hq hL;have hmap:∃ ns:List Int,l'=ns.map (Value.int .u8)/\ns.map (fun n=>UInt8.ofNat n.toNat)=q:=by
    induction hL generalizing q with
    | nil=>simp[zEH]at hq;subst hq;exact⟨[],rfl,rfl⟩
    | @cons v v' l l' hv _ ih =>
     cases v with
     | int k n =>
      cases k<;>simp only[zEH]at hq<;>try (cases hq;done)
      split at hq
      ·cases hq
      ·rename_i q' hq'
       cases hq
       obtain⟨ns,h6,h7⟩:=ih hq';exact⟨n::ns,by rw[hv.int_inv,h6];rfl,by simp[h7]⟩
     | _=>simp[zEH]at hq
   obtain⟨ns,h6,h7⟩:=hmap;refine⟨ns,h6,?_,h7⟩;have hfold:∀ (ns:List Int) (A:ByteArray),ns.foldl (fun r n=>r.push (UInt8.ofNat n.toNat)) A=⟨A.data++(ns.map (fun n=>UInt8.ofNat n.toNat)).toArray⟩:=by
    intro ns
    induction ns with
    | nil=>intro A;simp
    | cons n ns ih=>intro A;simp only[List.foldl_cons,ih,List.map_cons];rw[show (A.push (UInt8.ofNat n.toNat)).data=A.data++#[UInt8.ofNat n.toNat] from by show A.data.push _=_;exact Array.push_eq_append ..];simp[Array.append_assoc]
   rw[hfold,h7];simp[ByteArray.empty,ByteArray.emptyWithCapacity]
   try rfl
  obtain⟨ns,h6,h7,_⟩:=hints hq h4;have hload:(loadCells ⟨b',off,none⟩ n).run P w=.ok (ns.map (Value.int .u8)).toArray w:=by
   have:=run_loadCells_list (P:=P) w ⟨b',off,none⟩ l' (fun j v hj=>by rw[Addr.add_mid];exact h5 j v hj)
   rwa [← h4.len,h3,h6]at this
  have key:(convert S D (.slice (some ⟨b',off,none⟩) n c')).run P w=.ok (.string ⟨q.toArray⟩) w:=by
   have:=run_bytesToString (P:=P) w ⟨b',off,none⟩ n c' ns hload;rw[h7]at this;rw[run_convert_bytes_string w S D e (some ⟨b',off,none⟩) n c' hs he hd];exact this
  unfold execOp;simp only[ho,e1,Sem.run_bind,key,Result.andThen_ok,Sem.run_pure]
theorem zOP {S e:TypeId} {x:Operand} {b off n c:Nat} {cs:Array Value} {U:TypeId} (ho:o.op=.convert S S x) (ex:aev G t x=some (.slice (some ⟨b,off,none⟩) n c)) (hs:P.underlying S=some (.slice e)) (he:P.underlying e=some (.int .u8)) (hg:h.get b=some (.o (.cells cs U (0,0)))) (hf:h.floor<=b):OpD P G O o t h (.slice (some ⟨b,off,none⟩) n c) (h.put b (.o (.cells cs U (cs.size,cs.size+1)))):=by
 refine⟨by first|exact Keep.new _ _|exact Keep.put hg (by assumption) _|exact Keep.row hg (by assumption) _,?_⟩
 intro m w a M F T';have e0:=zAS M T' ex;obtain⟨b',c',r,e1,e2,_⟩:=e0.slice_inv;obtain⟨b2,r2,o',k1,k2,k3⟩:=M.obj b _ hg;rw[e2]at k1;cases k1
 cases k3 with
 | @cells _ cs' _ _ hL =>
  have hsz:cs'.size=cs.size:=by simpa using hL.len.symm
  have hsh:w.shape? b'=some (U,cs.size):=by unfold World.shape?;rw[k2];simp[hsz]
  have key:(convert S S (.slice (some ⟨b',off,none⟩) n c')).run P w=.ok (.slice (some ⟨b',off,none⟩) n c') (w.freeze ⟨b',cs.size,none⟩ 1):=by
   simp[convert,run_underlying hs,run_underlying he,markStringish,hsh]
  have hw:w.grownBy (w.freeze ⟨b',cs.size,none⟩ 1) (some b'):=by
   unfold World.freeze;rw[if_neg (by decide)]
   refine⟨rfl,rfl,rfl,by simp,fun j hj hne=>?_⟩
   show (w.heap.modify b' _)[j]?=_
   rw[Array.getElem?_modify,if_neg (fun e=>hne (by rw[e]))]
  have hn:(w.freeze ⟨b',cs.size,none⟩ 1).heap[b']?=some (.cells cs' U (cs.size,cs.size+1)):=by
   unfold World.freeze;rw[if_neg (by decide)]
   show (w.heap.modify b' _)[b']?=_
   rw[Array.getElem?_modify,if_pos rfl,k2];rfl
  obtain⟨q1,q2⟩:=zCo M hg hf e2 hw hn (.cells hL);refine⟨m,.slice (some ⟨b',off,none⟩) n c',_,_,?_,.inl rfl,q1,q2,by rw[← e1];exact e0⟩
  unfold execOp;simp only[ho,e1,Sem.run_bind,key,Result.andThen_ok,Sem.run_pure]
end
end
end Go.Proofs.YtphjgfjbiimkjaaGreat
