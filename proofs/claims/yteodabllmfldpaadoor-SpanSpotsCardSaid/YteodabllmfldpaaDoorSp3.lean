/-
  Laws of walks, and walks.
-/
import Derived.Test.YteodabllmfldpaaDoorSp2
import Derived.RangeFuncRecord
import Derived.RangeFuncNested
import Derived.TacticsIn
import Derived.LoopNIn
set_option linter.unusedVariables false
set_option linter.unusedSimpArgs false
set_option maxRecDepth 100000
set_option maxHeartbeats 16000000
namespace Go.Proofs.YteodabllmfldpaaDoor
section
open Go.RowKit
section
variable {P:Program} {G:Nat} {o:Oper} {t:List Value} {h h':AH} {v:Value}
theorem src_ok {m:NM} {w:World} (M:MT G m h w) {sz:Nat} {u u':Value} {new:List Value} (hu:VR m u u') (e:srcA h sz u=some new) (hs:1≤sz) :
  ∃ k c',(u'=.slice none 0 0∧new=[]∧k=0)∨∃ b off,u'=.slice (some ⟨b,off,none⟩) k c'∧new.length=k * sz∧∃ l',LR m new l'∧∀ (j:Nat) (x:Value),l'[j]?=some x→w.cell? ⟨b,off+j,none⟩=some x:=by
 unfold srcA at e;split at e
 ·cases e
  exact⟨0,0,.inl ⟨hu.sliceN_inv.1,rfl,rfl⟩⟩
 ·rename_i b off k c;obtain⟨b',c',r,h1,h2,_⟩:=hu.slice_inv;obtain⟨h3,l',h4,h5⟩:=segA_ok M h2 e;exact⟨k,c',.inr ⟨b',off,h1,h3,l',h4,h5⟩⟩
 ·cases e
theorem run_appendX {a:Act} {w w':World} {xs:Array Operand} {ts:Array TypeId} {T:TypeId} {x y:Operand} {v:Value} (ho:o.op=.call {callee:=.builtin .append,args:=xs,argTypes:=ts}) (ht:ts.toList=[T,T]) (hx:xs.toList=[x,y]) (hr:(Builtin.append_ #[T,T] o.type #[a.eval x,a.eval y]).run P w=.ok v w'):(execOp a.eval o).run P w=.ok (.value v) w':=by
 have e1:ts=#[T,T]:=Array.toList_inj.1 (by simpa using ht)
 have e2:xs=#[x,y]:=Array.toList_inj.1 (by simpa using hx)
 subst e1 e2;exact run_builtin ho rfl (by simpa using hr)
theorem run_append0 {T e ty:TypeId} {i:TypeInfo} {w:World} {b:Option Addr} {n c c2:Nat} {x:Value} {src:Option Addr} (hu:P.underlying T=some (.slice e)) (hi:P.info? e=some i) (hn:n≤c) (hx:x=.slice src 0 c2) :
  (Builtin.append_ #[T,T] ty #[.slice b n c,x]).run P w=.ok (.slice b n c) w:=by
 subst hx;have hf:(Builtin.firstCells i.size 0 (.slice src 0 c2)).run P w=.ok #[] w:=by
  cases src with
  | none=>simp[Builtin.firstCells]
  | some a=>simp[Builtin.firstCells,loadCells,loadCellsFrom]
 unfold Builtin.append_
 cases b with
 | none=>simp[Sem.run_bind,run_underlying hu,sizeOf,typeInfo,hi,Builtin.lenOf,hn,hf]
 | some a=>simp[Sem.run_bind,run_underlying hu,sizeOf,typeInfo,hi,Builtin.lenOf,hn,hf,storeCells]
theorem ev_append0 {ts:Array TypeId} {xs:Array Operand} {T e:TypeId} {x y:Operand} {n c:Nat} {base:Option Addr} {src:Value} {i:TypeInfo} (ho:o.op=.call {callee:=.builtin .append,args:=xs,argTypes:=ts}) (ht:ts.toList=[T,T]) (hx:xs.toList=[x,y]) (ex:aev G t x=some (.slice base n c)) (ey:aev G t y=some src) (hu:P.underlying T=some (.slice e)) (hi:P.info? e=some i) (h1:1≤i.size)
  (es:srcA h i.size src=some []) (hb:(base=none∧n=0)∨∃ b off,base=some ⟨b,off,none⟩∧((∃ p q r,h.get b=some (.row p q r))∨((∃ p q r,h.get b=some (.o (.cells p q r)))∧n≤c))):OpD P G o t h (.slice base n c) h :=
 .same fun m w a M T'=>by
  have e1:=aev_ok M T' ex;obtain⟨k,c2,hk⟩:=src_ok M (aev_ok M T' ey) es h1;have hsrc:∃ s2 c3,a.eval y=.slice s2 0 c3:=by
   rcases hk with ⟨h2,_,_⟩|⟨b,off,h2,h3,_⟩
   ·exact⟨none,0,h2⟩
   ·simp only[List.length_nil]at h3;have:k=0:=by
     rcases Nat.mul_eq_zero.1 h3.symm with h|h
     ·exact h
     ·omega
    subst this;exact⟨_,_,h2⟩
  obtain⟨s2,c3,hsrc⟩:=hsrc;rcases hb with ⟨rfl,rfl⟩|⟨b,off,rfl,hb⟩
  ·obtain⟨e2,_,rfl⟩:=e1.sliceN_inv;exact⟨.slice none 0 0,run_appendX ho ht hx (by rw[e2];exact run_append0 hu hi (Nat.le_refl _) hsrc),.sliceN⟩
  ·obtain⟨b',c',r,e2,e3,e4⟩:=e1.slice_inv;have hn:n≤c':=by
    rcases e4 with ⟨rfl,rfl⟩|⟨_,_,_,_,hl⟩
    ·rcases hb with ⟨p,q,s,hg⟩|⟨_,hn⟩
     ·obtain⟨b2,r2,o',k1,k2,k3⟩:=M.obj b _ hg;rw[e3]at k1;cases k1
      cases k3
     ·exact hn
    ·exact hl
   exact⟨.slice (some ⟨b',off,none⟩) n c',run_appendX ho ht hx (by rw[e2];exact run_append0 hu hi hn hsrc),by rw[← e2];exact e1⟩
theorem own_row {m:NM} {w:World} {e:TypeId} {sz n:Nat} {v:Value} {xs cs:List Value} (h:w.ownsRow 0 e sz v n xs) (hn:0<n) (h0:0<sz) (hc:LR m cs xs):∃ g K,v=.slice (some ⟨g,0,none⟩) n K∧v.ownBlock=some g∧n≤K∧∃ o',w.heap[g]?=some o'∧OR m (.row cs e sz) (some (sz,K)) o':=by
 obtain⟨hl,⟨rfl,rfl⟩|⟨g,cap,cur,rfl,hb,hg,hnc,hcm,hs,ht⟩⟩:=h
 ·omega
 ·have hm:n * sz≤cap * sz:=Nat.mul_le_mul_right _ hnc;exact⟨g,cap,rfl,rfl,hnc,_,hg,.row hs (by rw[hc.len,hl,hs];exact hm) (by rw[hc.len,hl,ht];exact hc) h0 hcm⟩
theorem ev_appendN {ts:Array TypeId} {xs:Array Operand} {T e:TypeId} {x y:Operand} {c:Nat} {src:Value} {i:TypeInfo} {z:Value} {new:List Value} (ho:o.op=.call {callee:=.builtin .append,args:=xs,argTypes:=ts}) (ht:ts.toList=[T,T]) (hx:xs.toList=[x,y]) (ex:aev G t x=some (.slice none 0 c)) (ey:aev G t y=some src) (hu:P.underlying T=some (.slice e)) (hi:P.info? e=some i) (hz:i.zero=some z) (hzs:z.cells.size=i.size) (h1:1≤i.size)
  (es:srcA h i.size src=some new) (hne:new.length≠0) (hone:new.all (·.oneCell')=true) (hb:new.length * i.bytes≤1048576) (hl:new.length≤65536):OpD P G o t h (.slice (some ⟨h.next,0,none⟩) (new.length / i.size) 0) (h.new (.row new e i.size)):=by
 refine⟨by first|exact Keep.new _ _|exact Keep.put hg (by assumption) _|exact Keep.row hg (by assumption) _,?_⟩
 intro m w a M F T';have e1:=(aev_ok M T' ex).sliceN_inv.1;obtain⟨k,c2,hk⟩:=src_ok M (aev_ok M T' ey) es h1;rcases hk with ⟨_,rfl,_⟩|⟨b,off,h2,h3,l',h4,h5⟩
 ·exact absurd rfl hne
 ·have hkl:k≤new.length:=by rw[h3];exact Nat.le_mul_of_pos_right _ h1
  have hk0:0<k:=by
   rcases Nat.eq_zero_or_pos k with h|h
   ·rw[h,Nat.zero_mul]at h3;exact absurd h3 hne
   ·exact h
  have hll:=h4.len;obtain⟨v',w',r1,r2,r3,r4,r5⟩:=run_append_own_at (P:=P) w 0 T o.type e i z i.size i.bytes hu hi hz rfl rfl hzs h1 (.slice none 0 0) 0 [] ⟨by simp,.inl ⟨rfl,rfl⟩⟩ ⟨b,off,none⟩ k c2 l' (by rw[← hll,h3])
   (fun j u hj=>by rw[Addr.add_mid];exact h5 j u hj) (fun u hu'=>List.all_eq_true.1 (by rw[h4.one];exact hone) u hu') (by simp only[maxLen];omega) (by
    have:(0+k) * i.bytes≤new.length * i.bytes:=Nat.mul_le_mul_right _ (by omega)
    omega) (Nat.zero_le _)
  rw[Nat.zero_add,List.nil_append]at r2;obtain⟨g,K,hv',hob,hnK,o',hg,hO⟩:=own_row (m:=m) r2 hk0 h1 h4;have hgs:g=w.heap.size:=by
   rcases r5 with h|h
   ·rw[hob]at h;cases h
   ·rw[hob]at h;cases h;rfl
  subst hgs;obtain⟨q1,q2,q3,q4⟩:=new_step M F (o:=.row new e i.size) (r:=some (i.size,K)) (by simpa [Value.ownBlock] using r3) hg hO
  refine⟨_,v',w',_,run_appendX ho ht hx (by rw[e1,h2];exact r1),.inl rfl,q2,q3,?_⟩
  rw[hv',show new.length / i.size=k from by rw[h3];exact Nat.mul_div_cancel _ h1]
  exact .row q4 (by omega) hnK
theorem ev_appendR {ts:Array TypeId} {xs:Array Operand} {T e:TypeId} {x y:Operand} {n c b:Nat} {cs:List Value} {src:Value} {i:TypeInfo} {z:Value} {new:List Value} (ho:o.op=.call {callee:=.builtin .append,args:=xs,argTypes:=ts}) (ht:ts.toList=[T,T]) (hx:xs.toList=[x,y]) (ex:aev G t x=some (.slice (some ⟨b,0,none⟩) n c)) (ey:aev G t y=some src) (hu:P.underlying T=some (.slice e)) (hi:P.info? e=some i) (hz:i.zero=some z) (hzs:z.cells.size=i.size) (h1:1≤i.size)
  (es:srcA h i.size src=some new) (hne:new.length≠0) (hone:new.all (·.oneCell')=true) (hb:(n+new.length) * i.bytes≤1048576) (hl:n+new.length≤65536) (hg:h.get b=some (.row cs e i.size)) (hcs:cs.length=n * i.size) (hf:h.floor≤b):OpD P G o t h (.slice (some ⟨h.next,0,none⟩) (n+new.length / i.size) 0) ((h.drop b).new (.row (cs++new) e i.size)):=by
 refine⟨by first|exact Keep.new _ _|exact Keep.put hg (by assumption) _|exact Keep.row hg (by assumption) _,?_⟩
 intro m w a M F T';obtain⟨b',c',r,e1,e2,e3⟩:=(aev_ok M T' ex).slice_inv;obtain⟨k,c2,hk⟩:=src_ok M (aev_ok M T' ey) es h1;obtain⟨b2,r2,o0,k1,k2,k3⟩:=M.obj b _ hg;rw[e2]at k1;cases k1
 cases k3 with
 | @row _ cur _ _ K hs hlen hL h0 hK =>
  rcases e3 with ⟨h,_⟩|⟨sz',K',hh,hc,hnl⟩
  ·cases h
  ·cases hh
   have hcK:c'=K:=Nat.eq_of_mul_eq_mul_right h0 (by omega)
   subst hcK;rcases hk with ⟨_,rfl,_⟩|⟨sb,off,h2,h3,l',h4,h5⟩
   ·exact absurd rfl hne
   ·have hkl:k≤new.length:=by rw[h3];exact Nat.le_mul_of_pos_right _ h1
    have hk0:0<k:=by
     rcases Nat.eq_zero_or_pos k with h|h
     ·rw[h,Nat.zero_mul]at h3;exact absurd h3 hne
     ·exact h
    have hll:=h4.len;rw[hcs]at hL;have hown:w.ownsRow 0 e i.size (.slice (some ⟨b',0,none⟩) n c') n (cur.toList.take (n * i.size)):=by
     refine⟨?_,.inr ⟨b',c',cur,rfl,Nat.zero_le _,k2,hnl,hK,hs,rfl⟩⟩;rw[← hL.len,hcs]
    obtain⟨v',w',r1,r2,r3,r4,r5⟩:=run_append_own_at (P:=P) w 0 T o.type e i z i.size i.bytes hu hi hz rfl rfl hzs h1 _ n _ hown ⟨sb,off,none⟩ k c2 l' (by rw[← hll,h3])
     (fun j u hj=>by rw[Addr.add_mid];exact h5 j u hj) (fun u hu'=>List.all_eq_true.1 (by rw[h4.one];exact hone) u hu') (by simp only[maxLen];omega) (by
      have:(n+k) * i.bytes≤(n+new.length) * i.bytes:=Nat.mul_le_mul_right _ (by omega)
      omega) (Nat.zero_le _)
    obtain⟨g,K2,hv',hob,hnK,o',hg',hO⟩:=own_row (m:=m) r2 (by omega) h1 (hL.append h4)
    have hgs:g=b'∨g=w.heap.size:=by
     rcases r5 with h|h
     ·rw[hob]at h;cases h;exact .inl rfl
     ·rw[hob]at h;cases h;exact .inr rfl
    obtain⟨q2,q3,q4⟩:=row_step M F hg hf e2 (by simpa [Value.ownBlock] using r3) hgs hg' hO
    refine⟨_,v',w',_,run_appendX ho ht hx (by rw[e1,h2];exact r1),.inl rfl,q2,q3,?_⟩
    rw[hv',show new.length / i.size=k from by rw[h3];exact Nat.mul_div_cancel _ h1]
    exact .row q4 (by omega) hnK
theorem ev_appendF {ts:Array TypeId} {xs:Array Operand} {T e:TypeId} {x y:Operand} {n b:Nat} {cs:Array Value} {fr:Nat × Nat} {src:Value} {i:TypeInfo} {z:Value} {new:List Value} (ho:o.op=.call {callee:=.builtin .append,args:=xs,argTypes:=ts}) (ht:ts.toList=[T,T]) (hx:xs.toList=[x,y]) (ex:aev G t x=some (.slice (some ⟨b,0,none⟩) n n)) (ey:aev G t y=some src) (hu:P.underlying T=some (.slice e)) (hi:P.info? e=some i) (hz:i.zero=some z) (hzs:z.cells.size=i.size) (h1:1≤i.size)
  (es:srcA h i.size src=some new) (hne:new.length≠0) (hone:new.all (·.oneCell')=true) (hb:(n+new.length) * i.bytes≤1048576) (hl:n+new.length≤65536) (hg:h.get b=some (.o (.cells cs e fr))) (hcs:cs.size=n * i.size):OpD P G o t h (.slice (some ⟨h.next,0,none⟩) (n+new.length / i.size) 0) (h.new (.row (cs.toList++new) e i.size)):=by
 refine⟨by first|exact Keep.new _ _|exact Keep.put hg (by assumption) _|exact Keep.row hg (by assumption) _,?_⟩
 intro m w a M F T';obtain⟨b',c',r,e1,e2,e3⟩:=(aev_ok M T' ex).slice_inv;obtain⟨k,c2,hk⟩:=src_ok M (aev_ok M T' ey) es h1;obtain⟨b2,r2,o0,k1,k2,k3⟩:=M.obj b _ hg;rw[e2]at k1;cases k1
 cases k3 with
 | @cells _ cur _ _ hL =>
  rcases e3 with ⟨_,rfl⟩|⟨_,_,hh,_⟩
  ·rcases hk with ⟨_,rfl,_⟩|⟨sb,off,h2,h3,l',h4,h5⟩
   ·exact absurd rfl hne
   ·have hkl:k≤new.length:=by rw[h3];exact Nat.le_mul_of_pos_right _ h1
    have hk0:0<k:=by
     rcases Nat.eq_zero_or_pos k with h|h
     ·rw[h,Nat.zero_mul]at h3;exact absurd h3 hne
     ·exact h
    have hll:=h4.len;have hcur:cur.toList.length=c' * i.size:=by rw[← hL.len];simpa using hcs
    have hge:=grownCap_ge w (c'+k) c' e;have hle:=grownCap_le_maxLen w (c'+k) c' e (by simp only[maxLen];omega)
    have key:=run_append_grow (P:=P) w T o.type e i z hu hi hz ⟨b',0,none⟩ c' c' cur.toList hcur (fun j v hj=>by
     rw[Addr.add_mid,cell_of_row w b' (0+j) cur e fr k2,Nat.zero_add,← Array.getElem?_toList];exact hj) ⟨sb,off,none⟩ k c2 l' (by rw[← hll,h3]) (fun j u hj=>by rw[Addr.add_mid];exact h5 j u hj) (by omega) (by omega) (by
      refine growslice_fits (by omega) ?_
      have:(c'+k) * i.bytes≤(c'+new.length) * i.bytes:=Nat.mul_le_mul_right _ (by omega)
      omega)
    obtain⟨K,hK⟩:∃ K,grownCap w (c'+k) c' e=K:=⟨_,rfl⟩;rw[hK]at key hge hle;have hLL:=hL.append h4;have hrow:OR m (.row (cs.toList++new) e i.size) (some (i.size,K)) (.cells (cur.toList.toArray++l'.toArray++Builtin.zeroCells z.cells (K - (c'+k))) e (0,0)):=by
     have hsz:(cur.toList.toArray++l'.toArray++Builtin.zeroCells z.cells (K - (c'+k))).size=K * i.size:=by
      simp only[Array.size_append,List.size_toArray,size_zeroCells,hzs,hcur,← hll,h3,← Nat.add_mul];rw[Nat.add_sub_cancel' hge]
     refine .row hsz ?_ ?_ h1 hle
     ·rw[hsz,hLL.len,List.length_append,hcur,← hll,h3,← Nat.add_mul];exact Nat.mul_le_mul_right _ hge
     ·rw[hLL.len];simp only[Array.toList_append];rw[List.take_left']
      ·exact hLL
      ·simp
    obtain⟨q1,q2,q3,q4⟩:=new_step M F (w':=w.drew.alloc (.cells (cur.toList.toArray++l'.toArray++Builtin.zeroCells z.cells (K - (c'+k))) e)) ⟨rfl,rfl,rfl,by simp,fun k hk _=>heap_alloc_old w.drew _ k hk⟩ (heap_alloc_new w.drew _) hrow
    refine⟨_,_,_,_,run_appendX ho ht hx (by rw[e1,h2];exact key),.inl rfl,q2,q3,?_⟩
    rw[show new.length / i.size=k from by rw[h3];exact Nat.mul_div_cancel _ h1]
    exact .row q4 (by omega) hge
  ·cases hh
theorem ER.len {m:NM} {l l':List MapEntry} (hE:ER m l l'):l.length=l'.length:=by
 induction hE with
 | nil=>rfl
 | cons _ _ _ _ _ ih=>simp[ih]
theorem find_ER {m:NM} {d:TypeDesc} {k:Value} {l l':List MapEntry} (hE:ER m l l'):∀ {i:Nat} {r:Option (Nat × Value)},Instr.findNow d k l i=some r→(r=none∧Instr.findNow d k l' i=some none)∨∃ j u u',r=some (j,u)∧Instr.findNow d k l' i=some (some (j,u'))∧VR m u u':=by
 induction hE with
 | nil=>intro i r e;simp[Instr.findNow]at e;subst e;exact .inl ⟨rfl,rfl⟩
 | cons hk hk' hv hb _ ih =>
  intro i r e;simp only[Instr.findNow,hk']at e ⊢;split at e
  ·cases e;exact .inr ⟨_,_,_,rfl,rfl,hv⟩
  ·exact ih e
  ·cases e
theorem ev_lookup {T kt e:TypeId} {x y:Operand} {ok:Bool} {xv k u:Value} {es:Array MapEntry} {d:TypeDesc} {fr:Option (Nat × Value)} (ho:o.op=.lookup T x y ok) (ex:aev G t x=some xv) (ey:aev G t y=some k) (hu:P.underlying T=some (.map kt e)) (hd:P.underlying kt=some d) (hm:mapA h xv=some es) (hp:plain k=true) (hc:(pureP P (Instr.checkKey es.isEmpty 10000 kt k)).isSome=true)
  (hf:Instr.findNow d k es.toList 0=some fr) (hr:(∃ j,fr=some (j,u))∨(fr=none∧(P.info? e).bind (·.zero)=some u∧plain u=true)):OpD P G o t h (cond ok (.tuple #[u,.bool fr.isSome]) u) h :=
 .same fun m w a M T'=>by
  have h1:=aev_ok M T' ex;have h2:=plain_eq hp (aev_ok M T' ey);obtain⟨c,hc⟩:=Option.isSome_iff_exists.1 hc;have hes:∃ es',ER m es.toList es'.toList∧((a.eval x=.map none∧es'=#[])∨∃ b cl,a.eval x=.map (some b)∧w.heap[b]?=some (.map es' cl)):=by
   unfold mapA at hm;split at hm
   ·cases hm
    generalize a.eval x=q at h1
    cases h1
    exact⟨#[],.nil,.inl ⟨rfl,rfl⟩⟩
   ·rename_i b;split at hm
    ·rename_i es0 cl hg
     cases hm
     obtain⟨b',e1,e2⟩:=h1.map_inv;obtain⟨b2,r2,o',k1,k2,k3⟩:=M.obj b _ hg;rw[e2]at k1;cases k1
     cases k3 with
     | @map _ es' _ hE=>exact⟨es',hE,.inr ⟨_,_,e1,k2⟩⟩
    ·cases hm
   ·cases hm
  obtain⟨es',hE,hx⟩:=hes;have hemp:es'.isEmpty=es.isEmpty:=by
   have:=hE.len;simp at this;simp[Array.isEmpty,this]
  have hcheck:(Instr.checkKey es'.isEmpty 10000 kt k).run P w=.ok c w:=by rw[hemp];exact pureP_run _ hc w
  have hres:∃ fr' u',Instr.findNow d k es'.toList 0=some fr'∧VR m u u'∧((∃ j,fr'=some (j,u')∧fr=some (j,u))∨(fr'=none∧fr=none∧(P.info? e).bind (·.zero)=some u')):=by
   rcases find_ER hE hf with ⟨rfl,h3⟩|⟨j,u1,u',rfl,h3,h4⟩
   ·rcases hr with ⟨j,hj⟩|⟨_,hz,hpu⟩
    ·cases hj
    ·exact⟨none,u,h3,plain_self hpu,.inr ⟨rfl,rfl,hz⟩⟩
   ·rcases hr with ⟨j',hj⟩|⟨hj,_⟩
    ·cases hj
     exact⟨_,u',h3,h4,.inl ⟨j,rfl,rfl⟩⟩
    ·cases hj
  obtain⟨fr',u',h3,h4,h5⟩:=hres;have hfk:(Instr.findKey kt k es'.toList).run P w=.ok fr' w:=by
   simp[Instr.findKey,Sem.run_bind,run_underlying hd,h3]
  have key:(Instr.lookup T (a.eval x) k ok).run P w=.ok (cond ok (.tuple #[u',.bool fr.isSome]) u') w:=by
   unfold Instr.lookup;rcases hx with ⟨e1,rfl⟩|⟨b,cl,e1,hb⟩
   ·rcases h5 with ⟨j,rfl,rfl⟩|⟨rfl,rfl,hz⟩
    ·simp[Instr.findNow]at h3
    ·obtain⟨i,hi,hz⟩:=Option.bind_eq_some_iff.1 hz;rw[e1];simp only[List.isEmpty_toArray,List.isEmpty_nil]at hcheck hfk
     cases ok<;>simp[Sem.run_bind,run_underlying hu,hcheck,hfk,zeroValue,typeInfo,hi,hz]
   ·rcases h5 with ⟨j,rfl,rfl⟩|⟨rfl,rfl,hz⟩
    ·rw[e1]
     cases ok<;>simp[Sem.run_bind,run_underlying hu,getObj,Sem.run,hb,hcheck,hfk]
    ·obtain⟨i,hi,hz⟩:=Option.bind_eq_some_iff.1 hz;rw[e1]
     cases ok<;>simp[Sem.run_bind,run_underlying hu,getObj,Sem.run,hb,hcheck,hfk,zeroValue,typeInfo,hi,hz]
  refine⟨cond ok (.tuple #[u',.bool fr.isSome]) u',?_,?_⟩
  ·unfold execOp;simp only[ho,h2,Sem.run_bind,key,Result.andThen_ok,Sem.run_pure]
  ·cases ok
   ·exact h4
   ·exact VR.tupL (a:=[u,_]) (a':=[u',_]) (.cons h4 (.cons (.bool _) .nil))
theorem ev_insert {T kt e:TypeId} {x y z:Operand} {b cl:Nat} {k u:Value} {es:Array MapEntry} {d:TypeDesc} (ho:o.op=.insert T x y z∨o.op=.mapUpdate T x y z) (ex:aev G t x=some (.map (some b))) (ey:aev G t y=some k) (ez:aev G t z=some u) (hu:P.underlying T=some (.map kt e)) (hd:P.underlying kt=some d) (hg:h.get b=some (.o (.map es cl))) (hp:plain1 k=true) (hc:(pureP P (Instr.checkKey false 10000 kt k)).isSome=true) (hfl:h.floor≤b)
  (hf:Instr.findNow d k es.toList 0=some none):OpD P G o t h undef (h.put b (.o (.map (es.push {key:=k,val:=u,born:=cl}) (cl+1)))):=by
 refine⟨by first|exact Keep.new _ _|exact Keep.put hg (by assumption) _|exact Keep.row hg (by assumption) _,?_⟩
 intro m w a M F T';obtain⟨b',e1,e2⟩:=(aev_ok M T' ex).map_inv;have h2:=plain1_eq hp (aev_ok M T' ey);have h3:=aev_ok M T' ez;obtain⟨c,hc⟩:=Option.isSome_iff_exists.1 hc;obtain⟨b2,r2,o',k1,k2,k3⟩:=M.obj b _ hg;rw[e2]at k1;cases k1
 cases k3 with
 | @map _ es' _ hE =>
  have hf':Instr.findNow d k es'.toList 0=some none:=by
   rcases find_ER hE hf with ⟨_,h4⟩|⟨j,u1,u',hh,_⟩
   ·exact h4
   ·cases hh
  have hlt:=(Array.getElem?_eq_some_iff.1 k2).1;have key:(Instr.mapUpdate T (.map (some b')) k (a.eval z)).run P w=.ok () (w.putObj b' (.map (es'.push {key:=k,val:=a.eval z,born:=cl}) (cl+1))):=by
   simp[Instr.mapUpdate,Sem.run_bind,run_underlying hu,getObj,setObj,Sem.run,k2,pureP_run _ hc w,Instr.findKey,run_underlying hd,hf',World.putObj]
  have hER:ER m (es.push {key:=k,val:=u,born:=cl}).toList (es'.push {key:=k,val:=a.eval z,born:=cl}).toList:=by
   simp only[Array.toList_push];have:∀ {l l':List MapEntry},ER m l l'→ER m (l++[{key:=k,val:=u,born:=cl}]) (l'++[{key:=k,val:=a.eval z,born:=cl}]):=by
    intro l l' hE
    induction hE with
    | nil=>exact .cons hp rfl h3 rfl .nil
    | cons p1 p2 p3 p4 _ ih=>exact .cons p1 p2 p3 p4 ih
   exact this hE
  have hw:w.grownBy (w.putObj b' (.map (es'.push {key:=k,val:=a.eval z,born:=cl}) (cl+1))) (some b') :=
   ⟨rfl,rfl,rfl,by simp[World.putObj],fun j hj hne=>World.putObj_heap_other (fun e=>hne (by rw[e]))⟩
  obtain⟨q1,q2⟩:=put_step M hg hfl e2 hw (World.putObj_heap_same hlt) (.map hER);refine⟨m,undef,_,.skip,?_,.inr ⟨rfl,rfl⟩,q1,q2,.undef⟩;unfold execOp;rcases ho with ho|ho<;>simp only[ho,e1,h2,Sem.run_bind,key,Result.andThen_ok,Sem.run_pure]
theorem ev_bytesStr {S D e:TypeId} {x:Operand} {b off n c:Nat} {l:List Value} {q:List UInt8} (ho:o.op=.convert S D x) (ex:aev G t x=some (.slice (some ⟨b,off,none⟩) n c)) (hs:P.underlying S=some (.slice e)) (hd:P.underlying D=some .string) (he:P.underlying e=some (.int .u8)) (hl:h.seg b off n=some l) (hq:bytesOf l=some q):OpD P G o t h (.string ⟨q.toArray⟩) h :=
 .same fun m w a M T'=>by
  obtain⟨b',c',r,e1,e2,_⟩:=(aev_ok M T' ex).slice_inv;obtain⟨h3,l',h4,h5⟩:=segA_ok M e2 hl;refine⟨.string ⟨q.toArray⟩,?_,.string _⟩;have hints:∀ {l l':List Value} {q:List UInt8},bytesOf l=some q→LR m l l'→∃ ns:List Int,l'=ns.map (Value.int .u8)∧ns.foldl (fun r n=>r.push (UInt8.ofNat n.toNat)) ByteArray.empty=⟨q.toArray⟩∧ns.map (fun n=>UInt8.ofNat n.toNat)=q:=by
   intro l l' q hq hL;have hmap:∃ ns:List Int,l'=ns.map (Value.int .u8)∧ns.map (fun n=>UInt8.ofNat n.toNat)=q:=by
    induction hL generalizing q with
    | nil=>simp[bytesOf]at hq;subst hq;exact⟨[],rfl,rfl⟩
    | @cons v v' l l' hv _ ih =>
     cases v with
     | int k n =>
      cases k<;>simp only[bytesOf]at hq<;>try (cases hq;done)
      split at hq
      ·cases hq
      ·rename_i q' hq'
       cases hq
       obtain⟨ns,h6,h7⟩:=ih hq';exact⟨n::ns,by rw[hv.int_inv,h6];rfl,by simp[h7]⟩
     | _=>simp[bytesOf]at hq
   obtain⟨ns,h6,h7⟩:=hmap;refine⟨ns,h6,?_,h7⟩;have hfold:∀ (ns:List Int) (A:ByteArray),ns.foldl (fun r n=>r.push (UInt8.ofNat n.toNat)) A=⟨A.data++(ns.map (fun n=>UInt8.ofNat n.toNat)).toArray⟩:=by
    intro ns
    induction ns with
    | nil=>intro A;simp
    | cons n ns ih=>intro A;simp only[List.foldl_cons,ih,List.map_cons];rw[show (A.push (UInt8.ofNat n.toNat)).data=A.data++#[UInt8.ofNat n.toNat] from by show A.data.push _=_;exact Array.push_eq_append ..];simp[Array.append_assoc]
   rw[hfold,h7];simp[ByteArray.empty,ByteArray.emptyWithCapacity]
   try rfl
  obtain⟨ns,h6,h7,_⟩:=hints hq h4;have hload:(loadCells ⟨b',off,none⟩ n).run P w=.ok (ns.map (Value.int .u8)).toArray w:=by
   have:=run_loadCells_list (P:=P) w ⟨b',off,none⟩ l' (fun j v hj=>by rw[Addr.add_mid];exact h5 j v hj)
   rwa [← h4.len,h3,h6]at this
  have key:(convert S D (.slice (some ⟨b',off,none⟩) n c')).run P w=.ok (.string ⟨q.toArray⟩) w:=by
   have:=run_bytesToString (P:=P) w ⟨b',off,none⟩ n c' ns hload;rw[h7]at this;rw[run_convert_bytes_string w S D e (some ⟨b',off,none⟩) n c' hs he hd];exact this
  unfold execOp;simp only[ho,e1,Sem.run_bind,key,Result.andThen_ok,Sem.run_pure]
theorem ev_convB {S e:TypeId} {x:Operand} {b off n c:Nat} {cs:Array Value} {U:TypeId} (ho:o.op=.convert S S x) (ex:aev G t x=some (.slice (some ⟨b,off,none⟩) n c)) (hs:P.underlying S=some (.slice e)) (he:P.underlying e=some (.int .u8)) (hg:h.get b=some (.o (.cells cs U (0,0)))) (hf:h.floor≤b):OpD P G o t h (.slice (some ⟨b,off,none⟩) n c) (h.put b (.o (.cells cs U (cs.size,cs.size+1)))):=by
 refine⟨by first|exact Keep.new _ _|exact Keep.put hg (by assumption) _|exact Keep.row hg (by assumption) _,?_⟩
 intro m w a M F T';have e0:=aev_ok M T' ex;obtain⟨b',c',r,e1,e2,_⟩:=e0.slice_inv;obtain⟨b2,r2,o',k1,k2,k3⟩:=M.obj b _ hg;rw[e2]at k1;cases k1
 cases k3 with
 | @cells _ cs' _ _ hL =>
  have hsz:cs'.size=cs.size:=by simpa using hL.len.symm
  have hsh:w.shape? b'=some (U,cs.size):=by unfold World.shape?;rw[k2];simp[hsz]
  have key:(convert S S (.slice (some ⟨b',off,none⟩) n c')).run P w=.ok (.slice (some ⟨b',off,none⟩) n c') (w.freeze ⟨b',cs.size,none⟩ 1):=by
   simp[convert,run_underlying hs,run_underlying he,markStringish,hsh]
  have hw:w.grownBy (w.freeze ⟨b',cs.size,none⟩ 1) (some b'):=by
   unfold World.freeze;rw[if_neg (by decide)]
   refine⟨rfl,rfl,rfl,by simp,fun j hj hne=>?_⟩
   show (w.heap.modify b' _)[j]?=_
   rw[Array.getElem?_modify,if_neg (fun e=>hne (by rw[e]))]
  have hn:(w.freeze ⟨b',cs.size,none⟩ 1).heap[b']?=some (.cells cs' U (cs.size,cs.size+1)):=by
   unfold World.freeze;rw[if_neg (by decide)]
   show (w.heap.modify b' _)[b']?=_
   rw[Array.getElem?_modify,if_pos rfl,k2];rfl
  obtain⟨q1,q2⟩:=put_step M hg hf e2 hw hn (.cells hL);refine⟨m,.slice (some ⟨b',off,none⟩) n c',_,_,?_,.inl rfl,q1,q2,by rw[← e1];exact e0⟩
  unfold execOp;simp only[ho,e1,Sem.run_bind,key,Result.andThen_ok,Sem.run_pure]
end
section
variable {P:Program} {G:Nat} {o:Oper} {t:List Value} {h h':AH} {v:Value}
theorem info_sizeP {T:TypeId} {n:Nat} (h:sizeP P T=some n):∃ i,P.info? T=some i∧i.size=n:=Option.map_eq_some_iff.1 h
theorem ok_alloc {T:TypeId} (ho:o.op=.alloc T) (e:evOp P G t h o.type (.alloc T)=some (v,h')):OpD P G o t h v h':=by
 simp only[evOp]at e;split at e
 ·cases e
 ·split at e
  ·cases e
  ·rw[cond_some]at e;obtain⟨e1,e2⟩:=e
   cases e2
   exact ev_alloc ho (by assumption) (by assumption) e1
theorem ok_build {T:TypeId} {ps:Array (Nat × Operand)} (ho:o.op=.build T ps) (e:evOp P G t h o.type (.build T ps)=some (v,h')):OpD P G o t h v h':=by
 simp only[evOp]at e;split at e
 ·cases e
 ·rename_i l hl;split at e
  ·cases e
  ·rename_i i hi;split at e
   ·cases e
   ·rename_i z hz;rw[cond_some]at e;obtain⟨e1,e⟩:=e;split at e
    ·rename_i fields hu;split at e
     ·rename_i c hc;rw[cond_some]at e;obtain⟨e2,e3⟩:=e
      cases e3
      exact ev_build ho hl (fun m l' hl'=>built_struct hi hz e1 hu hc e2 hl')
     ·cases e
    ·rename_i n el hu;split at e
     ·cases e
     ·rename_i n' hn;obtain⟨ie,hie,rfl⟩:=info_sizeP hn;split at e
      ·rename_i c hc
       cases e
       exact ev_build ho hl (fun m l' hl'=>built_array hi hz e1 hu hie hc hl')
      ·cases e
    ·cases e
theorem ok_buildSlice {T:TypeId} {n:Nat} {ps:Array (Nat × Operand)} (ho:o.op=.buildSlice T n ps) (e:evOp P G t h o.type (.buildSlice T n ps)=some (v,h')):OpD P G o t h v h':=by
 simp only[evOp]at e;split at e
 ·cases e
 ·rename_i l hl;split at e
  ·rename_i el hu;split at e
   ·cases e
   ·rename_i i hi;split at e
    ·cases e
    ·rename_i z hz;rw[cond_some]at e;simp only[Bool.and_eq_true,Nat.beq_eq,Nat.ble_eq]at e;obtain⟨⟨⟨⟨e1,e2⟩,e3⟩,e4⟩,e⟩:=e;split at e
     ·rename_i c hc
      cases e
      exact ev_buildSlice ho hl hu hi hz e1 e2 e3 e4 hc
     ·cases e
  ·cases e
theorem ok_load {T:TypeId} {x:Operand} (ho:o.op=.load T x) (e:evOp P G t h o.type (.load T x)=some (v,h')):OpD P G o t h v h':=by
 simp only[evOp]at e;split at e
 ·rename_i b off hx;split at e
  ·cases e
   exact ev_load ho hx (by assumption)
  ·cases e
 ·cases e
theorem ok_store {T:TypeId} {x y:Operand} (ho:o.op=.store T x y) (e:evOp P G t h o.type (.store T x y)=some (v,h')):OpD P G o t h v h':=by
 simp only[evOp]at e;split at e
 ·rename_i b off u hx hy;split at e
  ·cases e
  ·rename_i n hn;rw[cond_some,Nat.beq_eq]at e;obtain⟨rfl,e⟩:=e;split at e
   ·cases e
    exact ev_store ho hx hy hn (by assumption)
   ·cases e
 ·cases e
theorem ok_nilCheck {x:Operand} (ho:o.op=.nilCheck x) (e:evOp P G t h o.type (.nilCheck x)=some (v,h')):OpD P G o t h v h':=by
 simp only[evOp]at e;split at e
 ·rename_i a hx;obtain⟨b,off,sp⟩:=a
  cases sp with
  | none=>cases e;exact ev_nilCheck ho hx rfl
  | some s =>
   cases e
   refine⟨Keep.refl _,?_⟩
   intro m w a M F T';have:=aev_ok M T' hx
   cases this
 ·rename_i f a b hx
  cases e;exact ev_nilCheck ho hx rfl
 ·rename_i a hx
  cases e;exact ev_nilCheck ho hx rfl
 ·cases e
theorem ok_binOp {op:BinOp} {T U:TypeId} {x y:Operand} (ho:o.op=.binOp op T x y U) (e:evOp P G t h o.type (.binOp op T x y U)=some (v,h')):OpD P G o t h v h':=by
 simp only[evOp]at e;split at e
 ·rename_i a b hx hy
  cases hc:plain a&&plain b with
  | true =>
   rw[hc]at e;simp only[cond_true]at e;rw[Bool.and_eq_true]at hc;split at e
   ·rename_i u hu;rw[cond_some]at e;obtain⟨e1,e2⟩:=e
    cases e2
    exact ev_binP ho hx hy hc.1 hc.2 hu e1
   ·cases e
  | false =>
   rw[hc]at e;simp only[cond_false]at e;split at e
   ·rename_i d r hd hr;rw[cond_some,Bool.and_eq_true]at e;obtain⟨⟨e1,e2⟩,e⟩:=e;split at e
    ·cases e;exact ev_binN ho hx hy hd hr e1 e2 (.inl ⟨rfl,rfl⟩)
    ·cases e;exact ev_binN ho hx hy hd hr e1 e2 (.inr ⟨rfl,rfl⟩)
    ·cases e
   ·cases e
 ·cases e
theorem ok_unOp {op:UnOp} {T:TypeId} {x:Operand} (ho:o.op=.unOp op T x) (e:evOp P G t h o.type (.unOp op T x)=some (v,h')):OpD P G o t h v h':=by
 simp only[evOp]at e;split at e
 ·rename_i a hx;rw[cond_some]at e;obtain⟨e1,e⟩:=e;split at e
  ·rw[cond_some]at e;obtain⟨e2,e3⟩:=e
   cases e3
   exact ev_un ho hx e1 (by assumption) e2
  ·cases e
 ·cases e
theorem ok_convert {S D:TypeId} {x:Operand} (ho:o.op=.convert S D x) (e:evOp P G t h o.type (.convert S D x)=some (v,h')):OpD P G o t h v h':=by
 simp only[evOp]at e;split at e
 ·rename_i b off n c hx;split at e
  ·rename_i e1 e2 hs hd;split at e
   ·rename_i he;rw[cond_some,Nat.beq_eq]at e;obtain⟨rfl,e⟩:=e;split at e
    ·rename_i cs U hg;rw[cond_some,Nat.ble_eq]at e;obtain⟨hf,e⟩:=e
     cases e
     exact ev_convB ho hx hd he hg hf
    ·cases e
   ·cases e
  ·rename_i e1 hs hd;split at e
   ·rename_i he;split at e
    ·cases e
    ·rename_i l hl;split at e
     ·cases e
      exact ev_bytesStr ho hx hs hd he hl (by assumption)
     ·cases e
   ·cases e
  ·cases e
 ·rename_i a hx;rw[cond_some]at e;obtain⟨e1,e⟩:=e;split at e
  ·rw[cond_some]at e;obtain⟨e2,e3⟩:=e
   cases e3
   exact ev_conv ho hx e1 (by assumption) e2
  ·cases e
 ·cases e
theorem ok_makeInterface {T:TypeId} {x:Operand} (ho:o.op=.makeInterface T x) (e:evOp P G t h o.type (.makeInterface T x)=some (v,h')):OpD P G o t h v h':=by
 simp only[evOp]at e;split at e
 ·cases e
 ·rename_i u d hne hx hd
  cases e
  exact ev_iface ho hx hd (fun ms e=>hne ms e)
 ·cases e
theorem ok_makeFunc {f:Fn} {a b:Array Operand} (ho:o.op=.makeFunc f a b) (e:evOp P G t h o.type (.makeFunc f a b)=some (v,h')):OpD P G o t h v h':=by
 cases f<;>simp only[evOp]at e<;>try (cases e;done)
 split at e
 ·cases e
  exact ev_mkfunc ho (by assumption) (by assumption)
 ·cases e
theorem ok_makeMap {T:TypeId} {r:Option Operand} (ho:o.op=.makeMap T r) (e:evOp P G t h o.type (.makeMap T r)=some (v,h')):OpD P G o t h v h':=by
 cases r<;>simp only[evOp]at e<;>try (cases e;done)
 cases e
 exact ev_makeMap ho
theorem ok_makeSlice {T:TypeId} {x y:Operand} (ho:o.op=.makeSlice T x y) (e:evOp P G t h o.type (.makeSlice T x y)=some (v,h')):OpD P G o t h v h':=by
 simp only[evOp]at e;split at e
 ·rename_i a b hx hy;split at e
  ·rename_i el hu;split at e
   ·cases e
   ·rename_i i hi;split at e
    ·cases e
    ·rename_i z hz;rw[cond_some]at e;simp only[Bool.and_eq_true,Nat.beq_eq,Nat.ble_eq,decide_eq_true_eq]at e;obtain⟨⟨⟨⟨⟨⟨⟨e1,e2⟩,e3⟩,e4⟩,e5⟩,e6⟩,e7⟩,e⟩:=e;subst e4
     cases e
     exact ev_makeSlice ho hx hy e5 hu hi hz e1 e2 e3 e6 e7
  ·cases e
 ·cases e
theorem ok_slice {T:TypeId} {x:Operand} {lo hi mx:Option Operand} (ho:o.op=.slice T x lo hi mx) (e:evOp P G t h o.type (.slice T x lo hi mx)=some (v,h')):OpD P G o t h v h':=by
 cases mx<;>simp only[evOp]at e<;>try (cases e;done)
 split at e
 ·rename_i u k l hx hl;split at e
  ·rename_i k' r hr;rw[cond_some]at e;simp only[Bool.and_eq_true,decide_eq_true_eq]at e;obtain⟨⟨h0,h1⟩,e⟩:=e;split at e
   ·rename_i q;split at e
    ·rename_i hu;rw[cond_some,Nat.ble_eq]at e;obtain⟨h2,e⟩:=e
     cases e
     exact ev_sliceT ho hx hl hr h0 h1 hu h2
    ·cases e
   ·split at e
    ·rename_i el hu;split at e
     ·rename_i sz hs;rw[cond_some,Nat.beq_eq]at e;obtain⟨h2,e⟩:=e
      cases e
      exact ev_sliceN ho hx hl hr h0 h1 hu hs h2
     ·cases e
    ·cases e
   ·rename_i b off n c;split at e
    ·rename_i el hu;split at e
     ·cases e
     ·rename_i sz hs;split at e
      ·rename_i cs U fr hg;rw[cond_some,Nat.ble_eq]at e;obtain⟨h2,e⟩:=e
       cases e
       exact ev_sliceF ho hx hl hr h0 h1 hu hs hg h2
      ·rename_i cs U sz' hg;rw[cond_some]at e;simp only[Bool.and_eq_true,Nat.beq_eq,Nat.ble_eq,Nat.blt_eq]at e;obtain⟨⟨⟨rfl,h2⟩,h3⟩,e⟩:=e
       cases e
       exact ev_sliceR ho hx hl hr h0 h1 hu hs hg h2 h3
      ·cases e
    ·cases e
   ·cases e
  ·cases e
 ·cases e
theorem ok_fieldAddr {S:TypeId} {x:Operand} {f:Nat} (ho:o.op=.fieldAddr S x f) (e:evOp P G t h o.type (.fieldAddr S x f)=some (v,h')):OpD P G o t h v h':=by
 simp only[evOp]at e;split at e
 ·rename_i b off hx;split at e
  ·rename_i fields hu;split at e
   ·rename_i fd hf;split at e
    ·cases e
     exact ev_fieldAddr ho hx hu hf (by assumption)
    ·cases e
   ·cases e
  ·cases e
 ·cases e
theorem ok_field {T:TypeId} {x:Operand} {f:Nat} (ho:o.op=.field T x f) (e:evOp P G t h o.type (.field T x f)=some (v,h')):OpD P G o t h v h':=by
 simp only[evOp]at e;split at e
 ·rename_i cs hx;split at e
  ·rename_i fields hu;split at e
   ·rename_i fd hf;split at e
    ·cases e
     exact ev_field ho hx hu hf (by assumption)
    ·cases e
   ·cases e
  ·cases e
 ·cases e
theorem ok_indexAddr {T:TypeId} {x y:Operand} (ho:o.op=.indexAddr T x y) (e:evOp P G t h o.type (.indexAddr T x y)=some (v,h')):OpD P G o t h v h':=by
 simp only[evOp]at e;split at e
 ·rename_i u k i hx hy;rw[cond_some,decide_eq_true_eq]at e;obtain⟨h0,e⟩:=e;split at e
  ·rename_i n el b off hu;split at e
   ·rename_i sz hs;rw[cond_some,Nat.blt_eq]at e;obtain⟨h1,e⟩:=e
    cases e
    exact ev_indexA ho hx hy h0 hu hs h1
   ·cases e
  ·rename_i el b off n c hu;split at e
   ·rename_i sz hs;rw[cond_some,Nat.blt_eq]at e;obtain⟨h1,e⟩:=e
    cases e
    exact ev_indexS ho hx hy h0 hu hs h1
   ·cases e
  ·cases e
 ·cases e
theorem ok_index {T:TypeId} {x y:Operand} (ho:o.op=.index T x y) (e:evOp P G t h o.type (.index T x y)=some (v,h')):OpD P G o t h v h':=by
 simp only[evOp]at e;split at e
 ·rename_i u k i hx hy;rw[cond_some,decide_eq_true_eq]at e;obtain⟨h0,e⟩:=e;split at e
  ·rename_i n el cs hu;split at e
   ·rename_i sz hs;rw[cond_some,Nat.blt_eq]at e;obtain⟨h1,e⟩:=e;split at e
    ·cases e
     exact ev_indexG ho hx hy h0 hu hs h1 (by assumption)
    ·cases e
   ·cases e
  ·rename_i q hu;split at e
   ·cases e
    exact ev_indexT ho hx hy h0 hu (by assumption)
   ·cases e
  ·cases e
 ·cases e
theorem ok_lookup {T:TypeId} {x y:Operand} {ok:Bool} (ho:o.op=.lookup T x y ok) (e:evOp P G t h o.type (.lookup T x y ok)=some (v,h')):OpD P G o t h v h':=by
 simp only[evOp]at e;split at e
 ·rename_i u k hx hy;split at e
  ·rename_i kt el hu;split at e
   ·rename_i d es hd hm;rw[cond_some,Bool.and_eq_true]at e;obtain⟨⟨e1,e2⟩,e⟩:=e;split at e
    ·rename_i j u' hf
     cases e
     exact ev_lookup ho hx hy hu hd hm e1 e2 hf (.inl ⟨j,rfl⟩)
    ·rename_i hf;split at e
     ·rename_i z hz;rw[cond_some]at e;obtain⟨e3,e⟩:=e
      cases e
      exact ev_lookup ho hx hy hu hd hm e1 e2 hf (.inr ⟨rfl,hz,e3⟩)
     ·cases e
    ·cases e
   ·cases e
  ·cases e
 ·cases e
theorem ok_insert {T:TypeId} {x y z:Operand} {op:Op} (hop:op=.insert T x y z∨op=.mapUpdate T x y z) (ho:o.op=op) (e:evOp P G t h o.type op=some (v,h')):OpD P G o t h v h':=by
 have e':evOp P G t h o.type (.insert T x y z)=some (v,h'):=by
  rcases hop with rfl|rfl
  ·exact e
  ·simpa only[evOp] using e
 clear e;simp only[evOp]at e';split at e'
 ·rename_i b k u hx hy hz;split at e'
  ·rename_i kt el hu;split at e'
   ·rename_i d es cl hd hg;rw[cond_some]at e';simp only[Bool.and_eq_true,Nat.ble_eq]at e';obtain⟨⟨⟨e1,e2⟩,e3⟩,e⟩:=e';split at e
    ·rename_i hf
     cases e
     exact ev_insert (by rw[ho];exact hop) hx hy hz hu hd hg e1 e3 e2 hf
    ·cases e
   ·cases e'
  ·cases e'
 ·cases e'
theorem ok_typeAssert {S A:TypeId} {x:Operand} {ok:Bool} (ho:o.op=.typeAssert x S A ok) (e:evOp P G t h o.type (.typeAssert x S A ok)=some (v,h')):OpD P G o t h v h':=by
 simp only[evOp]at e;split at e
 ·cases e
 ·rename_i T u d hne hx hd;rw[cond_some,Nat.beq_eq]at e;obtain⟨rfl,e⟩:=e
  cases e
  exact ev_assert ho hx hd (fun ms e=>hne ms e)
 ·cases e
theorem ok_extract {x:Operand} {i:Nat} (ho:o.op=.extract x i) (e:evOp P G t h o.type (.extract x i)=some (v,h')):OpD P G o t h v h':=by
 simp only[evOp]at e;split at e
 ·rename_i vs hx;split at e
  ·cases e
   exact ev_extract ho hx (by assumption)
  ·cases e
 ·cases e
theorem ok_len {xs:Array Operand} {ts:Array TypeId} (ho:o.op=.call {callee:=.builtin .len,args:=xs,argTypes:=ts}) (e:evOp P G t h o.type (.call {callee:=.builtin .len,args:=xs,argTypes:=ts})=some (v,h')):OpD P G o t h v h':=by
 simp only[evOp]at e;split at e
 ·rename_i T tr x xr ht hx;split at e
  ·rename_i q hu hq
   cases e;exact ev_lenX ho ht hx hq hu (.inl ⟨rfl,q,rfl,rfl⟩)
  ·rename_i el b n c hu hq
   cases e;exact ev_lenX ho ht hx hq hu (.inr (.inl ⟨_,rfl,_,_,rfl⟩))
  ·rename_i n el u hu hq
   cases e;exact ev_lenX ho ht hx hq hu (.inr (.inr (.inl ⟨_,rfl⟩)))
  ·rename_i hu hq
   cases e;exact ev_lenX ho ht hx hq hu (.inr (.inr (.inr ⟨_,_,rfl,.inl ⟨rfl,rfl⟩⟩)))
  ·rename_i k el b hu hq;split at e
   ·rename_i es cl hg
    cases e;exact ev_lenX ho ht hx hq hu (.inr (.inr (.inr ⟨_,_,rfl,.inr ⟨b,es,cl,rfl,hg,rfl⟩⟩)))
   ·cases e
  ·cases e
 ·cases e
theorem ok_append {xs:Array Operand} {ts:Array TypeId} (ho:o.op=.call {callee:=.builtin .append,args:=xs,argTypes:=ts}) (e:evOp P G t h o.type (.call {callee:=.builtin .append,args:=xs,argTypes:=ts})=some (v,h')):OpD P G o t h v h':=by
 simp only[evOp]at e;split at e
 ·rename_i T U x y ht hx;split at e
  ·rename_i base n c src el ex ey hu;split at e
   ·cases e
   ·rename_i i hi;split at e
    ·cases e
    ·rename_i z hz;rw[cond_some]at e;simp only[Bool.and_eq_true,Nat.beq_eq,Nat.ble_eq]at e;obtain⟨⟨⟨⟨rfl,e1⟩,e2⟩,e3⟩,e⟩:=e;split at e
     ·cases e
     ·rename_i new hnew
      cases hl:Nat.beq new.length 0 with
      | true =>
       rw[hl,cond_true,cond_some]at e;obtain⟨e4,e⟩:=e
       cases e
       rw[Nat.beq_eq,List.length_eq_zero_iff]at hl;subst hl;refine ev_append0 ho ht hx ex ey hu hi e3 hnew ?_
       split at e4
       ·rw[Nat.beq_eq]at e4;exact .inl ⟨rfl,e4⟩
       ·rename_i b off;refine .inr ⟨b,off,rfl,?_⟩
        split at e4
        ·rename_i p q r hg;exact .inl ⟨_,_,_,hg⟩
        ·rename_i p q r hg;exact .inr ⟨⟨_,_,_,hg⟩,by simpa using e4⟩
        ·cases e4
       ·cases e4
      | false =>
       rw[hl,cond_false,cond_some]at e;simp only[Bool.and_eq_true,Nat.ble_eq]at e;obtain⟨⟨⟨e4,e5⟩,e6⟩,e⟩:=e;have hne:new.length≠0:=by intro h;rw[h]at hl;cases hl
       split at e
       ·rw[cond_some,Nat.beq_eq]at e;obtain⟨rfl,e⟩:=e
        cases e
        exact ev_appendN ho ht hx ex ey hu hi hz e2 e3 hnew hne e4 (by simpa using e5) (by simpa using e6)
       ·rename_i b;split at e
        ·rename_i cs e' sz hg;rw[cond_some]at e;simp only[Bool.and_eq_true,Nat.beq_eq,Nat.ble_eq]at e;obtain⟨⟨⟨⟨rfl,rfl⟩,e9⟩,e10⟩,e⟩:=e
         cases e
         exact ev_appendR ho ht hx ex ey hu hi hz e2 e3 hnew hne e4 e5 e6 hg e9 e10
        ·rename_i cs e' fr hg;rw[cond_some]at e;simp only[Bool.and_eq_true,Nat.beq_eq]at e;obtain⟨⟨⟨rfl,rfl⟩,e9⟩,e⟩:=e
         cases e
         exact ev_appendF ho ht hx ex ey hu hi hz e2 e3 hnew hne e4 e5 e6 hg e9
        ·cases e
       ·cases e
  ·cases e
 ·cases e
theorem ok_max {b:Builtin} (hb:b=.max∨b=.min) {xs:Array Operand} {ts:Array TypeId} (ho:o.op=.call {callee:=.builtin b,args:=xs,argTypes:=ts}) (e:evOp P G t h o.type (.call {callee:=.builtin b,args:=xs,argTypes:=ts})=some (v,h')):OpD P G o t h v h':=by
 rcases hb with rfl|rfl
 all_goals
  simp only[evOp]at e;split at e
  ·rename_i l hl;rw[cond_some]at e;obtain⟨e1,e⟩:=e;split at e
   ·rw[cond_some]at e;obtain⟨e2,e3⟩:=e
    cases e3
    exact ev_maxmin ho (fun _ _=>rfl) hl e1 (by assumption) e2
   ·cases e
  ·cases e
theorem evOp_ok (e:evOp P G t h o.type o.op=some (v,h')):OpD P G o t h v h':=by
 obtain⟨op,ho⟩:∃ op,o.op=op:=⟨_,rfl⟩;rw[ho]at e
 cases op with
 | move x =>
  simp only[evOp]at e;split at e
  ·cases e;exact ev_move (.inl ho) (by assumption)
  ·cases e
 | assign x =>
  simp only[evOp]at e;split at e
  ·cases e;exact ev_move (.inr ho) (by assumption)
  ·cases e
 | pick c a b =>
  simp only[evOp]at e;split at e
  ·split at e
   ·cases e;exact ev_pick (b:=true) ho (by assumption) (by assumption)
   ·cases e
  ·split at e
   ·cases e;exact ev_pick (b:=false) ho (by assumption) (by assumption)
   ·cases e
  ·cases e
 | alloc T=>exact ok_alloc ho e
 | box T x =>
  simp only[evOp]at e;split at e
  ·cases e
  ·cases e;exact ev_box ho (by assumption)
 | build T ps=>exact ok_build ho e
 | buildSlice T n ps=>exact ok_buildSlice ho e
 | load T x=>exact ok_load ho e
 | store T x y=>exact ok_store ho e
 | nilCheck x=>exact ok_nilCheck ho e
 | binOp op T x y U=>exact ok_binOp ho e
 | unOp op T x=>exact ok_unOp ho e
 | convert S D x=>exact ok_convert ho e
 | makeInterface T x=>exact ok_makeInterface ho e
 | makeFunc f a b=>exact ok_makeFunc ho e
 | makeMap T r=>exact ok_makeMap ho e
 | makeSlice T x y=>exact ok_makeSlice ho e
 | slice T x lo hi mx=>exact ok_slice ho e
 | fieldAddr S x f=>exact ok_fieldAddr ho e
 | field T x f=>exact ok_field ho e
 | indexAddr T x y=>exact ok_indexAddr ho e
 | index T x y=>exact ok_index ho e
 | lookup T x y ok=>exact ok_lookup ho e
 | insert T x y z=>exact ok_insert (.inl rfl) ho e
 | mapUpdate T x y z=>exact ok_insert (.inr rfl) ho e
 | typeAssert x S A ok=>exact ok_typeAssert ho e
 | extract x i=>exact ok_extract ho e
 | call c =>
  obtain⟨cal,xs,ts⟩:=c
  cases cal with
  | builtin b =>
   cases b with
   | len=>exact ok_len ho e
   | append=>exact ok_append ho e
   | max=>exact ok_max (.inl rfl) ho e
   | min=>exact ok_max (.inr rfl) ho e
   | _=>simp[evOp]at e
  | _=>simp[evOp]at e
 | _=>simp[evOp]at e
end
def FenW (r:Option Nat):Fence:={Fence.wide with round:=r}
def RdR (m:NM):Option Nat→Option Nat→Prop
 | none,none=>True
 | some l,some l'=>m l=some (l',none)
 | _,_=>False
inductive DR (m:NM):List Deferred→List Deferred→Prop
 | nil:DR m [] []
 | mark {r r':Nat} {x:Array Value} {l l':List Deferred} (h:m r=some (r',none)) (t:DR m l l'):DR m ({target:=.collected r,args:=x}::l) ({target:=.collected r',args:=#[]}::l')
theorem DR.mono {m m':NM} (hm:∀ n x,m n=some x→m' n=some x) {l l':List Deferred} (h:DR m l l'):DR m' l l':=by
 induction h with
 | nil=>exact .nil
 | mark h _ ih=>exact .mark (hm _ _ h) ih
theorem RdR.mono {m m':NM} (hm:∀ n x,m n=some x→m' n=some x) {r r':Option Nat} (h:RdR m r r'):RdR m' r r':=by
 cases r<;>cases r'<;>first|exact h|exact hm _ _ h
section
variable {P:Program} {G:Nat} {o:Oper} {t:List Value} {h h':AH} {v:Value}
def OpW (P:Program) (G:Nat) (o:Oper) (t:List Value) (h:AH) (v:Value) (h':AH):Prop :=
 Keep h h'∧∀ (rr:Option Nat) (m:NM) (w:World) (a:Act),MT G m h w→FreeN m h.next h'.next→LR m t a.tmps.toList →
  ∀ (K:Act→World→Prop) (Q:Exit→Act→World→Prop),(∀ m' v' w',EX m h w m' h' w'→MT G m' h' w'→VR m' v v'→K (a.put o.dst v') w')→o.wpIn (FenW rr) 0 P a w K Q
theorem OpD.opW (hd:∀ c,o.op≠.defer c) (k:OpD P G o t h v h'):OpW P G o t h v h':=by
 refine⟨k.1,fun rr m w a M F T K Q hK=>?_⟩
 obtain⟨m',v',w',x,hr,hx,hE,hM,hv⟩:=k.2 m w a M F T;refine⟨fun _ _=>trivial,?_⟩
 rw[Oper.semAt_eq _ _ _ hd,hr];rcases hx with rfl|⟨rfl,rfl⟩
 ·exact hK m' v' w' hE hM hv
 ·exact hK m' undef w' hE hM hv
def RecOk (P:Program) (G:Nat) (rec:Ev):Prop:=∀ (rd:Option Nat) (c:Code) (t:List Value) (d:List Deferred) (h:AH) (e:Exit) (t':List Value) (d':List Deferred) (h':AH),rec rd c t d h=some (e,t',d',h') →
 Keep h h'∧∀ (m:NM) (w:World) (a:Act) (rr:Option Nat),MT G m h w→FreeN m h.next h'.next→LR m t a.tmps.toList→DR m d a.defers→RdR m rd rr →
  ∀ Q:Exit→Act→World→Prop,(∀ m' w' a',EX m h w m' h' w'→MT G m' h' w'→LR m' t' a'.tmps.toList→DR m' d' a'.defers→Q e a' w')→c.wpIn (FenW rr) 0 P Q a w
def resOne (tm:Array Value):ResultVar→Sem Value
 | .tmp t=>pure (tm.getD t undef)
 | .cell a t=>do loadVar t (← asAddr (tm.getD a undef))
theorem results_eq (fn:Func) (tm:Array Value):results fn tm=(do let vs ← fn.results.mapM (resOne tm);pure (if h:vs.size=1 then vs[0] else .tuple vs)):=by
 unfold results
 congr 1
theorem run_results {fn:Func} {tm:Array Value} {w:World} {l:List Value} (h:(fn.results.toList.mapM (resOne tm)).run P w=.ok l w):(results fn tm).run P w=.ok (tupA l) w:=by
 rw[results_eq,Array.mapM_eq_mapM_toList];simp[Sem.run_bind,h]
 match l with
 | []=>rfl
 | [v]=>rfl
 | v::u::r=>rfl
theorem evRes_ok {m:NM} {w:World} {tm:Array Value} (M:MT G m h w) (T:LR m t tm.toList):∀ {rs:List ResultVar} {l:List Value},evRes P t h rs=some l→∃ l',(rs.mapM (resOne tm)).run P w=.ok l' w∧LR m l l'
 | [],l,e=>by simp[evRes]at e;subst e;exact⟨[],by simp,.nil⟩
 | .tmp k::r,l,e=>by
  simp only[evRes]at e;split at e
  ·rename_i l0 hl
   cases e
   obtain⟨l',h1,h2⟩:=evRes_ok M T hl;refine⟨tm.getD k undef::l',by simp[List.mapM_cons,Sem.run_bind,resOne,h1],.cons ?_ h2⟩
   have:=T.nth k;rw[nth_get tm.toList]at this
   simpa using this
  ·cases e
 | .cell a T'::r,l,e=>by
  simp only[evRes]at e;split at e
  ·rename_i b off hb;split at e
   ·rename_i v l0 hv hl
    cases e
    obtain⟨l',h1,h2⟩:=evRes_ok M T hl;have h3:=T.nth a;rw[hb,nth_get tm.toList]at h3;obtain⟨b',r',h4,h5⟩:=h3.ptr_inv;obtain⟨v',h6,h7⟩:=load_ok M h5 hv;have h8:tm.getD a undef=.pointer (some ⟨b',off,none⟩):=by simpa using h4
    exact⟨v'::l',by simp[List.mapM_cons,Sem.run_bind,resOne,h8,asAddr,h6,h1],.cons h7 h2⟩
   ·cases e
  ·cases e
theorem tup_ok {m:NM} {l l':List Value} (h:LR m l l'):VR m (tupA l) (tupA l'):=by
 cases h with
 | nil=>exact .tupL .nil
 | cons h t=>cases t with
  | nil=>exact h
  | cons h2 t2=>exact .tupL (.cons h (.cons h2 t2))
theorem evLeave_ok {fn:Func} {tm:Array Value} {R:Ending→World→Prop}:∀ {d:List Deferred} {h h2:AH},evLeave d h=some h2→(Keep h h2∧h2.next=h.next)∧∀ {m:NM} {w:World} {ds:List Deferred},MT G m h w→DR m d ds →
  (∀ w2,EX m h w m h2 w2→MT G m h2 w2→LeavesInM (FenW none) 0 P fn tm R [] .returning w2)→LeavesInM (FenW none) 0 P fn tm R ds .returning w
 | [],h,h2,e=>by
  simp only[evLeave,Option.some.injEq]at e;subst e;exact⟨⟨Keep.refl _,rfl⟩,fun M D k=>by cases D;exact k _ (EX.refl _ _ _) M⟩
 | x::d,h,h2,e=>by
  obtain⟨tg,ar⟩:=x
  cases tg<;>simp only[evLeave]at e<;>try (cases e;done)
  rename_i r;split at e
  ·rename_i hg;rw[cond_some,Nat.ble_eq]at e;obtain⟨hf,e⟩:=e;obtain⟨hn,ih⟩:=evLeave_ok (fn:=fn) (tm:=tm) (R:=R) e;refine⟨⟨(Keep.put hg hf _).trans hn.1,hn.2.trans rfl⟩,fun {m w ds} M D k=>?_⟩
   cases D with
   | @mark _ r' _ _ l' hm D' =>
    obtain⟨b,r2,o',k1,k2,k3⟩:=M.obj r _ hg;rw[hm]at k1;cases k1
    cases k3
    have hlt:=(Array.getElem?_eq_some_iff.1 k2).1;obtain⟨q1,q2⟩:=put_step M hg hf hm (w':=w.putObj r' (.deferred none)) ⟨rfl,rfl,rfl,by simp[World.putObj],fun j hj hne=>World.putObj_heap_other (fun e=>hne (by rw[e]))⟩ (World.putObj_heap_same hlt) .defn
    refine⟨by simp,.inl ⟨r',_,rfl,run_takeDeferred k2,?_⟩⟩
    refine ih q2 D' (fun w2 E2 M2=>k w2 (q1.trans q2 (fun n h1 h2=>?_) E2) M2)
    have:n<h.next:=h2;omega
  ·cases e
theorem callsIn_round {n:Nat} {f:FuncId} {args:Array Value} {w:World} {R:Ending→World→Prop} (rr:Option Nat) (h:CallsIn (FenW none) n P f args w R):CallsIn (FenW rr) n P f args w R:=h
def CallOk (P:Program) (G:Nat) (f:FuncId) (args:List Value) (h:AH) (v:Value) (h':AH):Prop:=Keep h h'∧(∀ (xs:Array Value) (w:World),(callFunc f xs).run P w=.ok (.enter f xs) w)∧∀ (m:NM) (w:World) (args':Array Value),MT G m h w→FreeN m h.next h'.next→LR m args args'.toList →
  ∀ R:Ending→World→Prop,(∀ m' v' w',EX m h w m' h' w'→MT G m' h' w'→VR m' v v'→R (.returned v') w')→CallsIn (FenW none) 0 P f args' w R
theorem evCall_ok {rec:Ev} (R0:RecOk P G rec) {f:FuncId} {args:List Value} (e:evCall P rec f args h=some (v,h')):CallOk P G f args h v h':=by
 unfold evCall at e;split at e
 ·cases e
 ·rename_i fn hf;split at e
  ·cases e
  ·rename_i c hb
   cases hname:(fn.name == "runtime.NumGoroutine") with
   | true=>rw[hname]at e;cases e
   | false =>
    rw[hname,cond_false]at e;have key:∀ (x:Exit) (t2:List Value) (d2:List Deferred) (h1:AH),(x=.normal∨x=.ret)→rec none c (args++List.replicate (fn.ntmps - args.length) undef) [] h=some (x,t2,d2,h1) →
      (match evLeave d2 h1 with|none=>none|some h2=>match evRes P t2 h2 fn.results.toList with|some l=>some (tupA l,h2)|none=>none)=some (v,h')→CallOk P G f args h v h':=by
     intro x t2 d2 h1 hx e1 e2;split at e2
     ·cases e2
     ·rename_i h2 hl;split at e2
      ·rename_i l hr
       cases e2
       obtain⟨n1,S1⟩:=R0 _ _ _ _ _ _ _ _ _ e1;have hlv:=(evLeave_ok (fn:=fn) (tm:=#[]) (R:=fun _ _=>True) (P:=P) (G:=G) hl).1
       refine⟨n1.trans hlv.1,fun xs w=>by simp[callFunc,Sem.run_bind,hf,(by simpa using hname:¬ fn.name = "runtime.NumGoroutine"),hb],fun m w args' M F L R k=>?_⟩
       refine callsIn_of_wp_marks (fn:=fn) (c:=c) hf hb trivial ?_ rfl;have hlen:args'.size=args.length:=by simpa using L.len.symm
       refine S1 m w _ none M (F.le (Nat.le_refl _) hlv.1.next) ?_ .nil trivial _ ?_
       ·have:=L.append (LR.rep (m:=m) (fn.ntmps - args.length))
        simpa [hlen] using this
       ·intro m1 w1 a1 E1 M1 T1 D1;have:LeavesInM (FenW none) 0 P fn a1.tmps R a1.defers .returning w1:=by
         obtain⟨hn,hk⟩:=evLeave_ok (fn:=fn) (tm:=a1.tmps) (R:=R) (P:=P) (G:=G) hl;refine hk M1 D1 (fun w2 E2 M2=>?_)
         obtain⟨l',h5,h6⟩:=evRes_ok M2 T1 hr;exact⟨tupA l',run_results h5,k _ _ _ (E1.trans M1 (F.le (Nat.le_refl _) hlv.1.next) E2) M2 (tup_ok h6)⟩
        rcases hx with rfl|rfl<;>exact this
      ·cases e2
    split at e
    ·exact key _ _ _ _ (.inl rfl) (by assumption) e
    ·exact key _ _ _ _ (.inr rfl) (by assumption) e
    ·cases e
theorem setTm_ok {m:NM}:∀ {ps:List Tmp} {vs vs':List Value} {t:List Value} {t':Array Value},LR m vs vs'→LR m t t'.toList→LR m (setTm t ps vs) ((ps.zip vs').foldl (fun tm (p:Tmp × Value)=>tm.setIfInBounds p.1 p.2) t').toList
 | [],_,_,_,_,hv,ht=>by cases hv<;>exact ht
 | p::ps,_,_,_,_,.nil,ht=>ht
 | p::ps,_,_,_,_,.cons hv hvs,ht=>by
  simp only[setTm,List.zip_cons_cons,List.foldl_cons];exact setTm_ok hvs (by simpa using ht.set hv p)
theorem evYield_ok {rec:Ev} (R0:RecOk P G rec) {l:Nat} {args:List Value} (e:evYield rec l args h=some (v,h')):Keep h h'∧∀ (m:NM) (w:World) (l':Nat) (args':Array Value),MT G m h w→FreeN m h.next h'.next→m l=some (l',none)→LR m args args'.toList →
  ∃ fn tm sg bd,(Instr.yield l' args').run P w=.ok (.round l' fn tm sg bd) w∧∀ (rr:Option Nat) (R:Ending→World→Prop),(∀ m' v' w',EX m h w m' h' w'→MT G m' h' w'→VR m' v v'→R (.returned v') w')→RoundIn (FenW rr) 0 P l' fn tm sg bd w R:=by
 unfold evYield at e;split at e
 ·rename_i r hg;rw[cond_some]at e;simp only[Bool.and_eq_true,Nat.beq_eq,Nat.ble_eq]at e;obtain⟨⟨hlen,hf⟩,e⟩:=e;split at e
  ·rename_i t1 h1 e1;split at e
   ·rename_i r1 hg1;split at e
    ·rename_i hst;split at e
     ·rename_i ex t2 d2 h3 e2;obtain⟨n1,S1⟩:=R0 _ _ _ _ _ _ _ _ _ e1;obtain⟨n2,S2⟩:=R0 _ _ _ _ _ _ _ _ _ e2;have n2':h1.next≤h3.next:=n2.next;have hend:∃ (r3:Loop) (j:Option Code),h3.get l=some (.o (.loop r3))∧jumpOf ex=some j∧v=.bool j.isNone∧h'=h3.put l (.o (.loop {r3 with state:=if j.isNone then .ready else .done,pending:=j})):=by
       split at e
       ·rename_i r3 hg3 hj;cases e;exact⟨r3,none,hg3,hj,rfl,rfl⟩
       ·rename_i r3 j hg3 hj;cases e;exact⟨r3,some j,hg3,hj,rfl,rfl⟩
       ·cases e
      obtain⟨r3,j,hg3,hj,rfl,rfl⟩:=hend;clear e;refine⟨((n1.trans (Keep.put hg1 (by rw[n1.floor];exact hf) _)).trans n2).trans (Keep.put hg3 (by rw[n2.floor];show h1.floor≤l;rw[n1.floor];exact hf) _),fun m w l' args' M F hm L=>?_⟩
      have F':FreeN m h.next h3.next:=F;obtain⟨b,rr0,o',k1,k2,k3⟩:=M.obj l _ hg;rw[hm]at k1;cases k1
      cases k3 with
      | @loop _ r' hL =>
       obtain⟨q1,q2,q3,q4,q5,q6,q7⟩:=hL;have hsz:args'.size=args.length:=by simpa using L.len.symm
       refine⟨r'.fn,(r'.params.zip args').foldl (fun tm (p:Tmp × Value)=>tm.setIfInBounds p.1 p.2) r'.tmps,r'.assign,r'.body,?_,fun rr R k=>?_⟩
       ·have:¬ (args'.size≠r'.params.size):=by rw[q4,hsz];exact fun h=>h hlen
        simp only[Instr.yield,Sem.run_bind,run_getLoop k2,Result.andThen_ok,this,if_false,Sem.run_pure]
       ·refine roundIn_of_wpIn (F:=FenW rr) (n:=0) trivial ?_
        show r'.assign.wpIn (FenW (some l')) 0 P _ _ w
        rw[q5];refine S1 m w _ (some l') M (F'.le (Nat.le_refl _) n2') ?_ .nil hm _ ?_
        ·have:=setTm_ok (ps:=r.params.toList) L q3;rw[← Array.foldl_toList,Array.toList_zip,q4];exact this
        ·intro m1 w1 a1 E1 M1 T1 D1;have hm1:=E1.mono _ _ hm;obtain⟨b1,rr1,o1',p1,p2,p3⟩:=M1.obj l _ hg1;rw[hm1]at p1;cases p1
         cases p3 with
         | @loop _ r1' hL1 =>
          obtain⟨s1,s2,s3,s4,s5,s6,s7⟩:=hL1;have hlt1:=(Array.getElem?_eq_some_iff.1 p2).1;refine⟨_,run_beginRound p2 (by rw[s1];exact hst),?_⟩
          obtain⟨E2,M2⟩:=put_step M1 hg1 (by rw[E1.floor];exact hf) hm1 (w':=w1.putObj l' (.loop {r1' with state:=.busy})) ⟨rfl,rfl,rfl,by simp[World.putObj],fun j hj hne=>World.putObj_heap_other (fun e=>hne (by rw[e]))⟩ (World.putObj_heap_same hlt1) (o:=.o (.loop {r1 with state:=.busy})) (.loop ⟨rfl,s2,s3,s4,s5,s6,s7⟩)
          show r'.body.wpIn (FenW (some l')) 0 P _ _ _
          rw[q6];have F1:FreeN m1 h1.next h3.next:=FreeN.after E1 (h2:=h3) F';refine S2 m1 _ a1 (some l') M2 F1 T1 D1 hm1 _ ?_
          intro m3 w3 a3 E3 M3 T3 D3;have hm3:=E3.mono _ _ hm1;obtain⟨b3,rr3,o3',u1,u2,u3⟩:=M3.obj l _ hg3;rw[hm3]at u1;cases u1
          cases u3 with
          | @loop _ r3' hL3 =>
           obtain⟨y1,y2,y3,y4,y5,y6,y7⟩:=hL3;have hlt3:=(Array.getElem?_eq_some_iff.1 u2).1;obtain⟨E4,M4⟩:=put_step M3 hg3 (by rw[E3.floor];show h1.floor≤l;rw[E1.floor];exact hf) hm3 (w':=w3.putObj l' (.loop {r3' with state:=if j.isNone then .ready else .done,pending:=j})) ⟨rfl,rfl,rfl,by simp[World.putObj],fun j hj hne=>World.putObj_heap_other (fun e=>hne (by rw[e]))⟩ (World.putObj_heap_same hlt3) (o:=.o (.loop {r3 with state:=if j.isNone then .ready else .done,pending:=j})) (.loop ⟨rfl,rfl,y3,y4,y5,y6,y7⟩)
           have E12:=E1.trans M1 (F'.le (Nat.le_refl _) n2') E2;have E13:=E12.trans M2 (F'.le (Nat.le_refl _) n2') E3;have E14:=E13.trans M3 F' E4;have fin:=k _ _ _ E14 M4 (.bool j.isNone);have hrun:=run_endRound (P:=P) j u2
           cases ex<;>simp[jumpOf]at hj<;>subst hj<;>exact⟨_,_,hrun,fin⟩
     ·cases e
    ·cases e
   ·cases e
  ·cases e
 ·cases e
end
section
variable {P:Program} {G:Nat} {o:Oper} {t:List Value} {h h':AH} {v:Value}
theorem LR.appA {m:NM} {a:List Value} {a':Array Value} (h:LR m a a'.toList) {b:List Value} {b':Array Value} (k:LR m b b'.toList):LR m (a++b) (a'++b').toList:=by
 rw[Array.toList_append];exact h.append k
theorem evAny_ok {rec:Ev} (R0:RecOk P G rec) (e:evAny P G rec t h o=some (v,h')):OpW P G o t h v h':=by
 obtain⟨op,ho⟩:∃ op,o.op=op:=⟨_,rfl⟩;have gen:(∀ f xs ts,op≠.call {callee:=.value f,args:=xs,argTypes:=ts})→OpW P G o t h v h':=by
  intro hne;have e':evOp P G t h o.type o.op=some (v,h'):=by
   unfold evAny at e;rw[ho]at e ⊢
   cases op with
   | call c =>
    obtain⟨cal,xs,ts⟩:=c
    cases cal with
    | value f=>exact absurd rfl (hne f xs ts)
    | _=>exact e
   | _=>exact e
  refine(evOp_ok e').opW (fun c hc=>?_)
  rw[hc]at e';simp[evOp]at e'
 cases op with
 | call c =>
  obtain⟨cal,xs,ts⟩:=c
  cases cal with
  | value f =>
   clear gen;unfold evAny at e;rw[ho]at e;simp only at e;split at e
   ·rename_i fv l hf hl;unfold evFn at e;have hnd:∀ c,o.op≠.defer c:=by intro c hc;rw[ho]at hc;cases hc
    split at e
    ·rename_i g first cap
     obtain⟨n1,he,S⟩:=evCall_ok R0 e;refine⟨n1,fun rr m w a M F T K Q hK=>⟨fun _ _=>trivial,?_⟩⟩
     obtain⟨first',cap',e1,e2,e3⟩:=(aev_ok M T hf).func_inv
     have hargs:=aevs_ok M T hl;rw[Oper.semAt_eq _ _ _ hnd];have hrun:(execOp a.eval o).run P w=.ok (.enter g (first'++xs.map a.eval++cap')) w:=by
      unfold execOp;simp only[ho,resolve,e1,Deferred.ofValue,Sem.run_bind,Sem.run_pure,Result.andThen_ok,invoke,he]
     rw[hrun,Oper.uponIn_enter];refine⟨(fun h=>by cases h),callsIn_round rr (S m w _ M F ?_ _ fun m' v' w' E' M' V'=>hK m' v' w' E' M' V')⟩
     have h4:LR m l (xs.map a.eval).toList:=by simpa using hargs
     exact LR.appA (LR.appA e2 h4) e3
    ·rename_i l0 x1 x2;obtain⟨n1,S⟩:=evYield_ok R0 e;refine⟨n1,fun rr m w a M F T K Q hK=>⟨fun _ _=>trivial,?_⟩⟩
     have hv:=aev_ok M T hf;obtain⟨l',e1,e2⟩:∃ l',a.eval f=.func (.yield l') #[] #[]∧m l0=some (l',none):=by
      generalize a.eval f=q at hv
      cases hv with
      | yield h=>exact⟨_,rfl,h⟩
     have hargs:=aevs_ok M T hl;rw[Oper.semAt_eq _ _ _ hnd];obtain⟨fn,tm,sg,bd,hy,S2⟩:=S m w l' (xs.map a.eval) M F e2 (by simpa using hargs)
     have hrun:(execOp a.eval o).run P w=.ok (.round l' fn tm sg bd) w:=by
      unfold execOp;have:(#[]:Array Value)++xs.map a.eval=xs.map a.eval:=by simp
      simp only[ho,resolve,e1,Deferred.ofValue,Sem.run_bind,Sem.run_pure,Result.andThen_ok,invoke,this,hy]
     rw[hrun,Oper.uponIn_round];exact⟨(fun h=>by cases h),S2 rr _ fun m' v' w' E' M' V'=>hK m' v' w' E' M' V'⟩
    ·cases e
   ·cases e
  | _=>exact gen (by intro f xs ts h;cases h)
 | _=>exact gen (by intro f xs ts h;cases h)
theorem wanted_ok {m:NM} {ops:Array Oper} {t:List Value} {a:Act} (T:LR m t a.tmps.toList):Region.wanted o (yielded ops a.tmps)=wantedA ops.toList t o:=by
 unfold Region.wanted wantedA
 cases o.guard with
 | none=>rfl
 | some g =>
  obtain⟨j,want⟩:=g;simp only[yielded]
  cases hj:ops[j]? with
  | none =>
   have:ops.toList.drop j=[]:=by
    have h1:=Array.getElem?_eq_none_iff.1 hj;exact List.drop_eq_nil_of_le (by simpa using h1)
   rw[this];simp
  | some p =>
   obtain⟨hlt,hp⟩:=Array.getElem?_eq_some_iff.1 hj;have:ops.toList.drop j=p::ops.toList.drop (j+1):=by
    rw[List.drop_eq_getElem_cons (by simpa using hlt)]
    simp[hp]
   rw[this];obtain⟨dst,_,_,_,_,_⟩:=p
   cases dst with
   | none=>simp
   | some d =>
    simp only[Option.bind_some];have h2:=T.nth d;have h3:nth a.tmps.toList d=(a.tmps[d]?).getD undef:=by
     rw[nth_get];simp[List.getD]
    rw[h3]at h2
    cases hd:a.tmps[d]? with
    | none =>
     rw[hd]at h2;simp only[Option.getD_none]at h2
     generalize nth t d=q at h2
     unfold undef at h2
     cases h2;rfl
    | some u =>
     rw[hd]at h2;simp only[Option.getD_some]at h2
     generalize nth t d=q at h2
     cases h2<;>first|rfl|(simp<;>rfl)
theorem put_ok {m:NM} {t:List Value} {a:Act} {v v':Value} (T:LR m t a.tmps.toList) (hv:VR m v v') (d:Option Tmp):LR m (putA t d v) (a.put d v').tmps.toList:=by
 cases d with
 | none=>exact T
 | some d =>
  simp only[putA,Act.put]
  simpa using T.set hv d
theorem evSeq_ok {rec:Ev} (R0:RecOk P G rec) (ops:Array Oper):∀ {l:List Oper} {t t':List Value} {h h':AH},evSeq P G rec ops.toList l t h=some (t',h')→Keep h h'∧∀ (rr:Option Nat) (m:NM) (w:World) (a:Act),MT G m h w→FreeN m h.next h'.next→LR m t a.tmps.toList →
  ∀ Q:Exit→Act→World→Prop,(∀ m' w' a',EX m h w m' h' w'→MT G m' h' w'→LR m' t' a'.tmps.toList→a'.defers=a.defers→Q .normal a' w')→wpListIn (FenW rr) 0 P ops Q l a w
 | [],t,t',h,h',e=>by
  simp only[evSeq,Option.some.injEq,Prod.mk.injEq]at e;obtain⟨rfl,rfl⟩:=e;exact⟨Keep.refl _,fun rr m w a M F T Q k=>k m w a (EX.refl _ _ _) M T rfl⟩
 | o::r,t,t',h,h',e=>by
  simp only[evSeq]at e
  cases hw:wantedA ops.toList t o with
  | false =>
   simp only[hw]at e;obtain⟨n1,S⟩:=evSeq_ok R0 ops e;refine⟨n1,fun rr m w a M F T Q k=>?_⟩
   unfold wpListIn;rw[wanted_ok T,hw];refine⟨fun _ _=>trivial,S rr m w _ M F (put_ok T .undef o.dst) Q (fun m' w' a' E' M' T' D'=>k m' w' a' E' M' T' (D'.trans (by cases o.dst<;>rfl)))⟩
  | true =>
   simp only[hw]at e;split at e
   ·cases e
   ·rename_i v h1 e1;obtain⟨n1,S1⟩:=evAny_ok R0 e1;obtain⟨n2,S2⟩:=evSeq_ok R0 ops e;refine⟨n1.trans n2,fun rr m w a M F T Q k=>?_⟩
    unfold wpListIn;rw[wanted_ok T,hw];simp only[if_true];have F1:=F.le (Nat.le_refl _) n2.next;refine S1 rr m w a M F1 T _ Q (fun m1 v1 w1 E1 M1 V1=>?_)
    refine S2 rr m1 w1 _ M1 (FreeN.after E1 F) (put_ok (T.mono E1.mono) V1 o.dst) Q (fun m' w' a' E' M' T' D'=>k m' w' a' (E1.trans M1 F1 E') M' T' (D'.trans (by cases o.dst<;>rfl)))
end
section
variable {P:Program} {G:Nat} {o:Oper} {t:List Value} {h h':AH} {v:Value}
theorem around_ok {round rr:Option Nat} {D:Nat} {mark:List Deferred} {h1:AH} {m:NM} {w:World} (e:evAround round h=some (D,mark,h1)) (M:MT G m h w) (F:FreeN m h.next h1.next) (R:RdR m round rr) :
  ∃ m1 w1 D' mark',EX m h w m1 h1 w1∧MT G m1 h1 w1∧m1 D=some (D',none)∧(∀ d d',DR m1 d d'→DR m1 (mark++d) (mark'++d')) ∧
   ∀ (fn:FuncId) (tm:Array Value) (ps:Array Tmp) (sg bd:Code),(Instr.enterLoop fn tm ps sg bd rr).run P w=.ok (w1.heap.size,mark') (w1.alloc (.loop {state:=.ready,pending:=none,fn,tmps:=tm,params:=ps,assign:=sg,body:=bd,defers:=D'})):=by
 cases round with
 | none =>
  simp only[evAround,Option.some.injEq,Prod.mk.injEq]at e;obtain⟨rfl,rfl,rfl⟩:=e
  cases rr with
  | some l=>exact R.elim
  | none =>
   obtain⟨q1,q2,q3,q4⟩:=new_step M F (grown_alloc w (.deferred (some []))) (World.alloc_heap_new w _) (o:=.o (.deferred (some []))) (r:=none) .defs;refine⟨_,_,w.heap.size,[{target:=.collected w.heap.size,args:=#[]}],q2,q3,q4,fun d d' hd=>.mark q4 hd,fun fn tm ps sg bd=>?_⟩
   rw[run_enterLoop_outer];have:(w.alloc (.deferred (some []))).heap.size=w.heap.size+1:=by
    show (w.heap.push _).size=_
    simp
   rw[this]
 | some l =>
  simp only[evAround]at e;split at e
  ·rename_i r hg;simp only[Option.some.injEq,Prod.mk.injEq]at e;obtain⟨rfl,rfl,rfl⟩:=e
   cases rr with
   | none=>exact R.elim
   | some l' =>
    obtain⟨b,r2,o',k1,k2,k3⟩:=M.obj l _ hg;rw[show m l=some (l',none) from R]at k1;cases k1
    cases k3 with
    | @loop _ r' hL =>
     exact⟨m,w,r'.defers,[],EX.refl _ _ _,M,hL.2.2.2.2.2.2,fun d d' hd=>hd,fun fn tm ps sg bd=>run_enterLoop_inner k2 fn tm ps sg bd⟩
  ·cases e
theorem around_next {round:Option Nat} {D:Nat} {mark:List Deferred} {h1:AH} (e:evAround round h=some (D,mark,h1)):Keep h h1:=by
 cases round with
 | none =>
  simp only[evAround,Option.some.injEq,Prod.mk.injEq]at e;obtain⟨_,_,rfl⟩:=e;exact Keep.new _ _
 | some l =>
  simp only[evAround]at e;split at e
  ·simp only[Option.some.injEq,Prod.mk.injEq]at e;obtain⟨_,_,rfl⟩:=e;exact Keep.refl _
  ·cases e
def EngStep (P:Program) (G:Nat) (rd:Option Nat) (c:Code) (t:List Value) (d:List Deferred) (h:AH) (e:Exit) (t':List Value) (d':List Deferred) (h':AH):Prop :=
 Keep h h'∧∀ (m:NM) (w:World) (a:Act) (rr:Option Nat),MT G m h w→FreeN m h.next h'.next→LR m t a.tmps.toList→DR m d a.defers→RdR m rd rr →
  ∀ Q:Exit→Act→World→Prop,(∀ m' w' a',EX m h w m' h' w'→MT G m' h' w'→LR m' t' a'.tmps.toList→DR m' d' a'.defers→Q e a' w')→c.wpIn (FenW rr) 0 P Q a w
theorem evRange_ok {rec:Ev} (R0:RecOk P G rec) {rd:Option Nat} {f:Operand} {params:Array Tmp} {sg bd:Code} {d d':List Deferred} {ex:Exit} {t':List Value} (e:evRange P G rec rd f params sg bd t d h=some (ex,t',d',h')):EngStep P G rd (.rangeFunc f params sg bd) t d h ex t' d' h':=by
 unfold evRange at e;split at e
 ·cases e
 ·rename_i fv hf;split at e
  ·cases e
  ·rename_i D mark h1 ha;split at e
   ·cases e
   ·rename_i v0 h2 hgo;split at e
    ·rename_i r hg2
     cases hst':(r.state == .busy || Nat.blt h1.next h2.floor) with
     | true=>rw[hst']at e;cases e
     | false =>
      rw[hst',cond_false]at e;rw[Bool.or_eq_false_iff]at hst';have hst:=hst'.1;have hfl0:h2.floor≤h1.next:=by
       have:=hst'.2;rcases Nat.lt_or_ge h1.next h2.floor with hl|hl
       ·rw[← Nat.blt_eq,this]at hl;cases hl
       ·exact hl
      split at e
      ·rename_i ex' hex;simp only[Option.some.injEq,Prod.mk.injEq]at e;obtain⟨rfl,rfl,rfl,rfl⟩:=e;unfold evGo at hgo;split at hgo
       ·rename_i g first cap
        obtain⟨n2,he,S⟩:=evCall_ok R0 hgo;have n0:=around_next ha;have n1:=n0.next;have n2':h1.next+1≤h2.next:=n2.next;refine⟨((n0.trans (Keep.new _ _)).trans n2).trans (Keep.put hg2 hfl0 _),fun m w a rr M F T DD RR Q k=>wpIn_rangeFunc fun fn _=>?_⟩
        have F':FreeN m h.next h2.next:=F;obtain⟨m1,w1,D',mark',E1,M1,hD,hmark,hent⟩:=around_ok (P:=P) (rr:=rr) ha M (F'.le (Nat.le_refl _) (by omega)) RR
        have F1:FreeN m1 h1.next h2.next:=FreeN.after E1 (h2:=h2) F';obtain⟨c1,E2,M2,hl⟩:=new_step M1 (F1.le (Nat.le_refl _) n2') (grown_alloc w1 (.loop {state:=.ready,pending:=none,fn,tmps:=a.tmps,params,assign:=sg,body:=bd,defers:=D'})) (World.alloc_heap_new w1 _) (o:=.o (.loop {state:=.ready,pending:=none,fn:=0,tmps:=t.toArray,params,assign:=sg,body:=bd,defers:=D})) (r:=none) (.loop ⟨rfl,rfl,T.mono E1.mono,rfl,rfl,rfl,hD⟩)
        have F2:FreeN _ (h1.next+1) h2.next:=FreeN.after E2 (h2:=h2) F1;obtain⟨first',cap',e1,e2,e3⟩:=(((aev_ok M T hf).mono E1.mono).mono E2.mono).func_inv
        have E12:=E1.trans M1 (F'.le (Nat.le_refl _) (by omega)) E2
        have hent':=hent fn a.tmps params sg bd;obtain⟨W1,hW1⟩:∃ W,w1.alloc (.loop {state:=.ready,pending:=none,fn,tmps:=a.tmps,params,assign:=sg,body:=bd,defers:=D'})=W:=⟨_,rfl⟩;rw[hW1]at hent' E2 M2 E12;refine⟨w1.heap.size,mark',W1,{target:=.fn (.func g) cap',args:=first'++#[.func (.yield w1.heap.size) #[] #[]]},W1,g,first'++#[.func (.yield w1.heap.size) #[] #[]]++cap',W1,hent',?_,fun _ _=>trivial,?_,?_,callsIn_round rr (S _ W1 _ M2 F2 ?_ _ ?_)⟩
        ·show (Deferred.ofValue (a.eval f) _).run P W1=_
         rw[e1,show (rangeCall f w1.heap.size).args.map a.eval=#[.func (.yield w1.heap.size) #[] #[]] from by simp[Act.eval]]
         rfl
        ·simp only[invoke,he]
        ·intro h;cases h
        ·exact LR.appA (LR.appA e2 (b':=#[.func (.yield w1.heap.size) #[] #[]]) (.cons (.yield hl) .nil)) e3
        ·intro m3 v3 w3 E3 M3 V3;obtain⟨b,r2,o',k1,k2,k3⟩:=M3.obj _ _ hg2;rw[E3.mono _ _ hl]at k1;cases k1
         cases k3 with
         | @loop _ r' hL =>
          obtain⟨q1,q2,q3,q4,q5,q6,q7⟩:=hL;have hlt:=(Array.getElem?_eq_some_iff.1 k2).1;have hnb:r'.state≠.busy:=by rw[q1];intro h;rw[h]at hst;cases hst
          have hfl:h2.floor≤h1.next:=by
           rw[E3.floor]
           show h1.floor≤h1.next
           exact M1.fl
          obtain⟨E4,M4⟩:=put_step M3 hg2 hfl (E3.mono _ _ hl) (w':=w3.putObj w1.heap.size (.loop {r' with state:=.exhausted})) ⟨rfl,rfl,rfl,by simp[World.putObj],fun j hj hne=>World.putObj_heap_other (fun e=>hne (by rw[e]))⟩ (World.putObj_heap_same hlt) (o:=.o (.loop {r with state:=.exhausted})) (.loop ⟨rfl,q2,q3,q4,q5,q6,q7⟩)
          have E13:=E12.trans M2 (F'.le (Nat.le_refl _) n2') E3;have E14:=E13.trans M3 F' E4;have hm14:∀ n x,m1 n=some x→m3 n=some x:=fun n x e=>E3.mono _ _ (E2.mono _ _ e)
          have hmk:DR m3 (mark++d) (mark'++a.defers):=(hmark d a.defers (DD.mono E1.mono)).mono hm14;have fin:=k _ _ {a with defers:=mark'++a.defers} E14 M4 (T.mono E14.mono) hmk
          refine⟨r.pending,w3.putObj w1.heap.size (.loop {r' with state:=.exhausted}),(by rw[← q2];exact run_endLoop k2 hnb),?_⟩
          cases hp:r.pending with
          | none=>rw[hp]at hex;simp[exitOf]at hex;subst hex;exact fin
          | some c =>
           rw[hp]at hex
           cases c<;>simp[exitOf]at hex<;>subst hex
           ·exact wpIn_exit fin
           ·exact wpIn_goto fin
           ·exact wpIn_ret fin
       ·cases hgo
      ·cases e
    ·cases e
def DrawOk (P:Program) (G:Nat) (rec:Ev):Prop:=∀ (ops:Array Oper) (t t':List Value) (h h':AH),(tmpOk ops.toList (befL ops.toList) ops.toList 0&&edgesOk ops.toList 0)=true→evDraw P G rec ops.toList (befL ops.toList) ops.toList 0 ⟨[],[],[],[]⟩ t h=some (t',h') →
 Keep h h'∧∀ (rr:Option Nat) (m:NM) (w:World) (a:Act) (id:Nat),MT G m h w→FreeN m h.next h'.next→LR m t a.tmps.toList →
  ∀ Q:Exit→Act→World→Prop,(∀ m' w' a',EX m h w m' h' w'→MT G m' h' w'→LR m' t' a'.tmps.toList→a'.defers=a.defers→Q .normal a' w')→(Code.region id ops true).wpIn (FenW rr) 0 P Q a w
theorem evRegion_ok {rec:Ev} (R0:RecOk P G rec) (D0:DrawOk P G rec) {ops:Array Oper} {draw:Bool} {t':List Value} {id:Nat} (e:evRegion P G rec ops draw t h=some (t',h')) :
  Keep h h'∧∀ (rr:Option Nat) (m:NM) (w:World) (a:Act),MT G m h w→FreeN m h.next h'.next→LR m t a.tmps.toList →
   ∀ Q:Exit→Act→World→Prop,(∀ m' w' a',EX m h w m' h' w'→MT G m' h' w'→LR m' t' a'.tmps.toList→a'.defers=a.defers→Q .normal a' w')→(Code.region id ops draw).wpIn (FenW rr) 0 P Q a w:=by
 unfold evRegion at e
 cases draw with
 | true =>
  rw[cond_true,cond_some]at e;obtain⟨n1,S⟩:=D0 ops t t' h h' e.1 e.2;exact⟨n1,fun rr m w a M F T Q k=>S rr m w a id M F T Q k⟩
 | false =>
  rw[cond_false]at e;obtain⟨n1,S⟩:=evSeq_ok R0 ops e;exact⟨n1,fun rr m w a M F T Q k=>wpIn_region_list (S rr m w a M F T Q k)⟩
def LoopOk (P:Program) (G n:Nat):Prop:=∀ (rd:Option Nat) (b:Code) (t:List Value) (d:List Deferred) (h:AH) (e:Exit) (t':List Value) (d':List Deferred) (h':AH),ev P G n rd (.loop b) t d h=some (e,t',d',h') →
 Keep h h'∧∀ (m:NM) (w:World) (a:Act) (rr:Option Nat),MT G m h w→FreeN m h.next h'.next→LR m t a.tmps.toList→DR m d a.defers→RdR m rd rr →
  ∀ Q:Exit→Act→World→Prop,(∀ m' w' a',EX m h w m' h' w'→MT G m' h' w'→LR m' t' a'.tmps.toList→DR m' d' a'.defers→Q e a' w')→Code.roundsIn (FenW rr) 0 P b Q n a w
theorem ev_ok (D0:∀ rec,RecOk P G rec→DrawOk P G rec):∀ n,RecOk P G (ev P G n)∧LoopOk P G n
 | 0=>⟨fun _ _ _ _ _ _ _ _ _ e=>by simp[ev]at e,fun _ _ _ _ _ _ _ _ _ e=>by simp[ev]at e⟩
 | n+1=>by
  obtain⟨A,B⟩:=ev_ok D0 n;have L:LoopOk P G (n+1):=by
   intro rd b t d h e t' d' h' hev;simp only[ev]at hev;split at hev
   ·rename_i t1 d1 h1 e1;obtain⟨n1,S1⟩:=A _ _ _ _ _ _ _ _ _ e1;obtain⟨n2,S2⟩:=B _ _ _ _ _ _ _ _ _ hev;refine⟨n1.trans n2,fun m w a rr M F T DD RR Q k=>?_⟩
    have F1:=F.le (Nat.le_refl _) n2.next;rw[roundsIn_succ];refine S1 m w a rr M F1 T DD RR _ (fun m1 w1 a1 E1 M1 T1 D1=>?_)
    exact S2 m1 w1 a1 rr M1 (FreeN.after E1 F) T1 D1 (RR.mono E1.mono) Q (fun m' w' a' E' M' T' D'=>k m' w' a' (E1.trans M1 F1 E') M' T' D')
   ·rename_i r hne;obtain⟨n1,S1⟩:=A _ _ _ _ _ _ _ _ _ hev;refine⟨n1,fun m w a rr M F T DD RR Q k=>?_⟩
    rw[roundsIn_succ];refine S1 m w a rr M F T DD RR _ (fun m' w' a' E' M' T' D'=>?_)
    have:=k m' w' a' E' M' T' D'
    cases e with
    | normal=>exact absurd hev (hne _ _ _)
    | _=>exact this
  refine⟨?_,L⟩;intro rd c t d h e t' d' h' hev
  cases c with
  | skip =>
   simp only[ev,Option.some.injEq,Prod.mk.injEq]at hev;obtain⟨rfl,rfl,rfl,rfl⟩:=hev;exact⟨Keep.refl _,fun m w a rr M F T DD RR Q k=>wpIn_skip (k m w a (EX.refl _ _ _) M T DD)⟩
  | label l =>
   simp only[ev,Option.some.injEq,Prod.mk.injEq]at hev;obtain⟨rfl,rfl,rfl,rfl⟩:=hev;exact⟨Keep.refl _,fun m w a rr M F T DD RR Q k=>wpIn_label (k m w a (EX.refl _ _ _) M T DD)⟩
  | region id ops draw =>
   simp only[ev]at hev;split at hev
   ·rename_i t1 h1 e1;simp only[Option.some.injEq,Prod.mk.injEq]at hev;obtain⟨rfl,rfl,rfl,rfl⟩:=hev;obtain⟨n1,S1⟩:=evRegion_ok (id:=id) A (D0 _ A) e1;exact⟨n1,fun m w a rr M F T DD RR Q k=>S1 rr m w a M F T Q (fun m' w' a' E' M' T' D'=>k m' w' a' E' M' T' (by rw[D'];exact DD.mono E'.mono))⟩
   ·cases hev
  | seq x y =>
   simp only[ev]at hev;split at hev
   ·rename_i t1 d1 h1 e1;obtain⟨n1,S1⟩:=A _ _ _ _ _ _ _ _ _ e1;obtain⟨n2,S2⟩:=A _ _ _ _ _ _ _ _ _ hev;refine⟨n1.trans n2,fun m w a rr M F T DD RR Q k=>wpIn_seq ?_⟩
    have F1:=F.le (Nat.le_refl _) n2.next;refine S1 m w a rr M F1 T DD RR _ (fun m1 w1 a1 E1 M1 T1 D1=>?_)
    exact S2 m1 w1 a1 rr M1 (FreeN.after E1 F) T1 D1 (RR.mono E1.mono) Q (fun m' w' a' E' M' T' D'=>k m' w' a' (E1.trans M1 F1 E') M' T' D')
   ·rename_i r hne;obtain⟨n1,S1⟩:=A _ _ _ _ _ _ _ _ _ hev;refine⟨n1,fun m w a rr M F T DD RR Q k=>wpIn_seq ?_⟩
    refine S1 m w a rr M F T DD RR _ (fun m' w' a' E' M' T' D'=>?_)
    have:=k m' w' a' E' M' T' D'
    cases e with
    | normal=>exact absurd hev (hne _ _ _)
    | _=>exact this
  | cond c x y =>
   simp only[ev]at hev;split at hev
   ·rename_i hc;obtain⟨n1,S1⟩:=A _ _ _ _ _ _ _ _ _ hev;exact⟨n1,fun m w a rr M F T DD RR Q k=>wpIn_cond_true (aev_ok M T hc).bool_inv (S1 m w a rr M F T DD RR Q k)⟩
   ·rename_i hc;obtain⟨n1,S1⟩:=A _ _ _ _ _ _ _ _ _ hev;exact⟨n1,fun m w a rr M F T DD RR Q k=>wpIn_cond_false (aev_ok M T hc).bool_inv (S1 m w a rr M F T DD RR Q k)⟩
   ·cases hev
  | block id b =>
   simp only[ev]at hev;split at hev
   ·rename_i k0 t1 d1 h1 e1;obtain⟨n1,S1⟩:=A _ _ _ _ _ _ _ _ _ e1
    cases hk:Nat.beq k0 id with
    | true =>
     rw[hk,cond_true]at hev;simp only[Option.some.injEq,Prod.mk.injEq]at hev;obtain⟨rfl,rfl,rfl,rfl⟩:=hev;rw[Nat.beq_eq]at hk;refine⟨n1,fun m w a rr M F T DD RR Q k=>wpIn_block (S1 m w a rr M F T DD RR _ (fun m' w' a' E' M' T' D'=>?_))⟩
     simp only[Exit.inBlock,hk,if_true];exact k m' w' a' E' M' T' D'
    | false =>
     rw[hk,cond_false]at hev;simp only[Option.some.injEq,Prod.mk.injEq]at hev;obtain⟨rfl,rfl,rfl,rfl⟩:=hev;have hk':¬ k0=id:=fun h=>by rw[← Nat.beq_eq,hk]at h;cases h
     refine⟨n1,fun m w a rr M F T DD RR Q k=>wpIn_block (S1 m w a rr M F T DD RR _ (fun m' w' a' E' M' T' D'=>?_))⟩
     simp only[Exit.inBlock,hk',if_false];exact k m' w' a' E' M' T' D'
   ·rename_i r hne;obtain⟨n1,S1⟩:=A _ _ _ _ _ _ _ _ _ hev;refine⟨n1,fun m w a rr M F T DD RR Q k=>wpIn_block (S1 m w a rr M F T DD RR _ (fun m' w' a' E' M' T' D'=>?_))⟩
    have:=k m' w' a' E' M' T' D'
    cases e with
    | exit k0=>exact absurd hev (hne _ _ _ _)
    | _=>exact this
  | loop b =>
   obtain⟨n1,S1⟩:=L rd b t d h e t' d' h' hev;exact⟨n1,fun m w a rr M F T DD RR Q k=>wpIn_loop_rounds (n+1) (S1 m w a rr M F T DD RR Q k)⟩
  | rangeFunc f ps sg bd =>
   simp only[ev]at hev;exact evRange_ok A hev
  | exit id =>
   simp only[ev,Option.some.injEq,Prod.mk.injEq]at hev;obtain⟨rfl,rfl,rfl,rfl⟩:=hev;exact⟨Keep.refl _,fun m w a rr M F T DD RR Q k=>wpIn_exit (k m w a (EX.refl _ _ _) M T DD)⟩
  | scope b =>
   simp only[ev]at hev;split at hev
   ·cases hev
   ·rename_i r hne;obtain⟨n1,S1⟩:=A _ _ _ _ _ _ _ _ _ hev;refine⟨n1,fun m w a rr M F T DD RR Q k=>wpIn_scope (S1 m w a rr M F T DD RR _ (fun m' w' a' E' M' T' D'=>?_))⟩
    have:=k m' w' a' E' M' T' D'
    cases e with
    | goto k0=>exact absurd hev (hne _ _ _ _)
    | _=>exact this
  | goto l =>
   simp only[ev,Option.some.injEq,Prod.mk.injEq]at hev;obtain⟨rfl,rfl,rfl,rfl⟩:=hev;exact⟨Keep.refl _,fun m w a rr M F T DD RR Q k=>wpIn_goto (k m w a (EX.refl _ _ _) M T DD)⟩
  | ret =>
   simp only[ev,Option.some.injEq,Prod.mk.injEq]at hev;obtain⟨rfl,rfl,rfl,rfl⟩:=hev;exact⟨Keep.refl _,fun m w a rr M F T DD RR Q k=>wpIn_ret (k m w a (EX.refl _ _ _) M T DD)⟩
  | refuse s=>simp[ev]at hev
end
end
end Go.Proofs.YteodabllmfldpaaDoor
