/-
  Laws of walks, and walks.
-/
import Derived.Test.YtdoflhjhaciepaaGreatVt1
import Derived.Deep.CutRange
set_option linter.unusedVariables false
set_option linter.unusedSimpArgs false
set_option maxRecDepth 100000
set_option maxHeartbeats 16000000
namespace Go.Proofs.YtdoflhjhaciepaaGreat
open Go.RowKit Go.Shelf
attribute [local go_sem] Oper.semAt_some
def BytesR (F:Nat→Prop) (p:Option Addr) (c:Nat) (L:Str) (V:World):Prop:=RdN 1 V F (.slice p L.length c) (L.map fun b=>#[.int .u8 b.toNat])
section
variable {F:Nat→Prop} {p:Option Addr} {c:Nat} {L:Str} {V W w0:World}
theorem BytesR.kept (h:BytesR F p c L W) (hV:∀ b,F b→V.heap[b]?=W.heap[b]?):BytesR F p c L V:=RdN.kept h hV
theorem BytesR.bound (h:BytesR F p c L W):L.length≤c∧c≤9223372036854775807:=by
 obtain⟨p',c',e,h1,h2,_⟩:=h;simp only[Value.slice.injEq]at e;obtain⟨rfl,_,rfl⟩:=e;rw[List.length_map]at h1;exact⟨h1,by simpa [maxLen] using h2⟩
theorem BytesR.at (h:BytesR F p c L W) (hn:0<L.length):∃ b off,p=some ⟨b,off,none⟩:=by
 obtain⟨p',c',e,_,_,_,h3⟩:=h;simp only[Value.slice.injEq]at e;obtain⟨rfl,_,rfl⟩:=e;obtain⟨b,off,e2,_⟩:=h3 0 #[.int .u8 L[0].toNat] (by rw[List.getElem?_map,List.getElem?_eq_getElem hn];rfl)
 exact⟨b,off,e2⟩
theorem BytesR.cell {b off:Nat} (h:BytesR F (some ⟨b,off,none⟩) c L V) {j:Nat} (hj:j<L.length):V.cell? ⟨b,off+j,none⟩=some (.int .u8 (byt L j)):=by
 obtain⟨p,c,e1,_,_,_,h3⟩:=h;obtain⟨b',off',e2,_,_,h4⟩:=h3 j #[.int .u8 L[j].toNat] (by rw[List.getElem?_map,List.getElem?_eq_getElem hj];rfl)
 simp only[Value.slice.injEq]at e1;obtain⟨rfl,_,rfl⟩:=e1
 cases e2
 have:=h4 0 (by decide)
 rw[Nat.mul_one,Nat.add_zero]at this;rw[this];simp[byt,List.getD_eq_getElem?_getD,hj]
theorem Hold.bytes (hF:∀ b,F b→b<w0.heap.size) (h:BytesR F p c L w0):Hold w0 w0 [.kn F (BytesR F p c L)] :=
 (Hold.start w0).know F (BytesR F p c L) hF (fun i r h=>by simp at h) (fun V hV=>h.kept hV)
end
theorem ret_bool {a b:Bool} (h:a=b):Ending.returned (.bool a)=Ending.returned (.bool b):=by rw[h]
theorem word_expr (bv:Nat):((decide ((48:Int)≤bv)&&decide ((bv:Int)≤57) || decide ((97:Int)≤bv)&&decide ((bv:Int)≤122) || decide ((65:Int)≤bv)&&decide ((bv:Int)≤90)) || (bv:Int) == 95)=wordB bv:=by
 unfold wordB;rw[Bool.eq_iff_iff];simp;omega
theorem wordU_all:∀ n:Fin 256,wordB n.val=((decide (48≤n.val)&&decide (n.val≤57) || (decide ((97:Int)≤bits BinOp.or IntKind.u8 (n.val:Int) 32)&&decide (bits BinOp.or IntKind.u8 (n.val:Int) 32≤(122:Int)))&&decide (n.val<128)) || n.val == 95):=by decide +kernel
theorem wordU (bv:Nat) (u:Int) (hu:bits BinOp.or IntKind.u8 (bv:Int) 32=u) (hb:bv<256):wordB bv=((decide (48≤bv)&&decide (bv≤57) || (decide ((97:Int)≤u)&&decide (u≤(122:Int)))&&decide (bv<128)) || bv == 95):=by
 subst hu;exact wordU_all ⟨bv,hb⟩
def feedA (s:Str) (i:Int):Bool:=if i<0∨(s.length:Int)≤i then true else byt s i.toNat == 10
theorem feedA_in {L:Str} {j:Nat} (h:j<L.length):feedA L j=(byt L j == 10):=by
 unfold feedA;rw[if_neg (by omega)];simp
theorem feedA_out {L:Str} {i:Int} (h:i<0∨(L.length:Int)≤i):feedA L i=true:=by
 unfold feedA;rw[if_pos h]
theorem wordA_in {L:Str} {j:Nat} (h:j<L.length):wordA L j=wordB (byt L j):=by
 unfold wordA;rw[if_neg (by omega)];simp
theorem wordA_out {L:Str} {i:Int} (h:i<0∨(L.length:Int)≤i):wordA L i=false:=by
 unfold wordA;rw[if_pos h]
theorem ref_word12 (p:Option Addr) (c:Nat) (L:Str) (i:Int) (F:Nat→Prop) (w0:World) (hF:∀ b,F b→b<w0.heap.size) (h:BytesR F p c L w0) :
  Calls Tryz.prog 115 #[.slice p L.length c,.int .i64 i] w0 fun e w'=>e=.returned (.bool (wordA L i))∧Below w0.heap.size w0 w':=by
 have hp:=h.at;have H:=Hold.bytes hF h;clear h;obtain⟨n,hn⟩:∃ n,L.length=n:=⟨_,rfl⟩;have HN:=Lib.hid hn;rw[hn]at hp ⊢;clear hn
 by_cases h1:i<0
 ·have d1:decide (i<0)=true:=by simp;exact h1
  have E:=Lib.hid (wordA_out (L:=L) (.inl h1));clear h1
  go_enter Tryz.func115,Tryz.ntmps115
  go_wp2_with (first|fail)
  go_ret;exact⟨by rw[E.out];rfl,H.below⟩
 have d1:decide (i<0)=false:=by simp;omega
 by_cases h2:(n:Int)≤i
 ·have d2:decide ((n:Int)≤i)=true:=by simp;exact h2
  have E:=Lib.hid (wordA_out (L:=L) (.inr (by rw[HN.out];exact h2)))
  clear h1 h2
  go_enter Tryz.func115,Tryz.ntmps115
  go_wp2_with (first|fail)
  go_ret;exact⟨by rw[E.out];rfl,H.below⟩
 have d2:decide ((n:Int)≤i)=false:=by simp;omega
 obtain⟨j,rfl⟩:∃ j:Nat,i=j:=⟨i.toNat,by omega⟩
 have hj:j<n:=by omega
 obtain⟨b,off,rfl⟩:=hp (by omega)
 have E:=Lib.hid (wordA_in (L:=L) (j:=j) (by rw[HN.out];exact hj))
 have hcell:∀ V,BytesR F (some ⟨b,off,none⟩) c L V→V.cell? ⟨b,off+j,none⟩=some (.int .u8 (byt L j)):=fun V h=>h.cell (by rw[HN.out];exact hj)
 obtain⟨bv,hv⟩:∃ bv,byt L j=bv:=⟨_,rfl⟩;rw[hv]at hcell E;clear hv h1 h2
 go_enter Tryz.func115,Tryz.ntmps115
 go_upto_region 4 with (first|((with_reducible refine gL ?_);refine own_load1K wtd_ _ _ rfl rfl one_u8 (hcell _ (H.kn (i:=0) .zero)) ?_)|fail)
 refine wp_region_seq 26 [fun v _=>v=Value.int .u8 (((bv:Nat):Int)),fun v _=>v=Value.bool (decide ((48)≤(((bv:Nat):Int)))),fun v _=>v=Value.bool (decide ((48)≤(((bv:Nat):Int)))),fun v _=>v=(bif (true)&&((decide ((48)≤(((bv:Nat):Int)))) == true) then Value.int .u8 (((bv:Nat):Int)) else undef),fun v _=>v=(bif (true)&&((decide ((48)≤(((bv:Nat):Int)))) == true) then Value.bool (decide ((((bv:Nat):Int))≤(57))) else undef),fun v _=>v=Value.bool ((decide ((48)≤(((bv:Nat):Int))))&&(decide ((((bv:Nat):Int))≤(57)))),fun v _=>v=Value.bool ((decide ((48)≤(((bv:Nat):Int))))&&(decide ((((bv:Nat):Int))≤(57)))),fun v _=>v=(bif (true)&&(((decide ((48)≤(((bv:Nat):Int))))&&(decide ((((bv:Nat):Int))≤(57)))) == false) then Value.int .u8 (((bv:Nat):Int)) else undef),fun v _=>v=(bif (true)&&(((decide ((48)≤(((bv:Nat):Int))))&&(decide ((((bv:Nat):Int))≤(57)))) == false) then Value.bool (decide ((97)≤(((bv:Nat):Int)))) else undef),fun v _=>v=(bif (true)&&(((decide ((48)≤(((bv:Nat):Int))))&&(decide ((((bv:Nat):Int))≤(57)))) == false) then Value.bool (decide ((97)≤(((bv:Nat):Int)))) else undef),fun v _=>v=(bif ((true)&&(((decide ((48)≤(((bv:Nat):Int))))&&(decide ((((bv:Nat):Int))≤(57)))) == false))&&((decide ((97)≤(((bv:Nat):Int)))) == true) then Value.int .u8 (((bv:Nat):Int)) else undef),fun v _=>v=(bif ((true)&&(((decide ((48)≤(((bv:Nat):Int))))&&(decide ((((bv:Nat):Int))≤(57)))) == false))&&((decide ((97)≤(((bv:Nat):Int)))) == true) then Value.bool (decide ((((bv:Nat):Int))≤(122))) else undef),fun v _=>v=(bif (true)&&(((decide ((48)≤(((bv:Nat):Int))))&&(decide ((((bv:Nat):Int))≤(57)))) == false) then Value.bool ((decide ((97)≤(((bv:Nat):Int))))&&(decide ((((bv:Nat):Int))≤(122)))) else undef),fun v _=>v=Value.bool (((decide ((48)≤(((bv:Nat):Int))))&&(decide ((((bv:Nat):Int))≤(57)))) || ((decide ((97)≤(((bv:Nat):Int))))&&(decide ((((bv:Nat):Int))≤(122))))),fun v _=>v=Value.bool (((decide ((48)≤(((bv:Nat):Int))))&&(decide ((((bv:Nat):Int))≤(57)))) || ((decide ((97)≤(((bv:Nat):Int))))&&(decide ((((bv:Nat):Int))≤(122))))),fun v _=>v=(bif (true)&&((((decide ((48)≤(((bv:Nat):Int))))&&(decide ((((bv:Nat):Int))≤(57)))) || ((decide ((97)≤(((bv:Nat):Int))))&&(decide ((((bv:Nat):Int))≤(122))))) == false) then Value.int .u8 (((bv:Nat):Int)) else undef),fun v _=>v=(bif (true)&&((((decide ((48)≤(((bv:Nat):Int))))&&(decide ((((bv:Nat):Int))≤(57)))) || ((decide ((97)≤(((bv:Nat):Int))))&&(decide ((((bv:Nat):Int))≤(122))))) == false) then Value.bool (decide ((65)≤(((bv:Nat):Int)))) else undef),fun v _=>v=(bif (true)&&((((decide ((48)≤(((bv:Nat):Int))))&&(decide ((((bv:Nat):Int))≤(57)))) || ((decide ((97)≤(((bv:Nat):Int))))&&(decide ((((bv:Nat):Int))≤(122))))) == false) then Value.bool (decide ((65)≤(((bv:Nat):Int)))) else undef),fun v _=>v=(bif ((true)&&((((decide ((48)≤(((bv:Nat):Int))))&&(decide ((((bv:Nat):Int))≤(57)))) || ((decide ((97)≤(((bv:Nat):Int))))&&(decide ((((bv:Nat):Int))≤(122))))) == false))&&((decide ((65)≤(((bv:Nat):Int)))) == true) then Value.int .u8 (((bv:Nat):Int)) else undef),fun v _=>v=(bif ((true)&&((((decide ((48)≤(((bv:Nat):Int))))&&(decide ((((bv:Nat):Int))≤(57)))) || ((decide ((97)≤(((bv:Nat):Int))))&&(decide ((((bv:Nat):Int))≤(122))))) == false))&&((decide ((65)≤(((bv:Nat):Int)))) == true) then Value.bool (decide ((((bv:Nat):Int))≤(90))) else undef),fun v _=>v=(bif (true)&&((((decide ((48)≤(((bv:Nat):Int))))&&(decide ((((bv:Nat):Int))≤(57)))) || ((decide ((97)≤(((bv:Nat):Int))))&&(decide ((((bv:Nat):Int))≤(122))))) == false) then Value.bool ((decide ((65)≤(((bv:Nat):Int))))&&(decide ((((bv:Nat):Int))≤(90)))) else undef),fun v _=>v=Value.bool ((((decide ((48)≤(((bv:Nat):Int))))&&(decide ((((bv:Nat):Int))≤(57)))) || ((decide ((97)≤(((bv:Nat):Int))))&&(decide ((((bv:Nat):Int))≤(122))))) || ((decide ((65)≤(((bv:Nat):Int))))&&(decide ((((bv:Nat):Int))≤(90))))),fun v _=>v=Value.bool ((((decide ((48)≤(((bv:Nat):Int))))&&(decide ((((bv:Nat):Int))≤(57)))) || ((decide ((97)≤(((bv:Nat):Int))))&&(decide ((((bv:Nat):Int))≤(122))))) || ((decide ((65)≤(((bv:Nat):Int))))&&(decide ((((bv:Nat):Int))≤(90))))),fun v _=>v=(bif (true)&&(((((decide ((48)≤(((bv:Nat):Int))))&&(decide ((((bv:Nat):Int))≤(57)))) || ((decide ((97)≤(((bv:Nat):Int))))&&(decide ((((bv:Nat):Int))≤(122))))) || ((decide ((65)≤(((bv:Nat):Int))))&&(decide ((((bv:Nat):Int))≤(90))))) == false) then Value.int .u8 (((bv:Nat):Int)) else undef),fun v _=>v=(bif (true)&&(((((decide ((48)≤(((bv:Nat):Int))))&&(decide ((((bv:Nat):Int))≤(57)))) || ((decide ((97)≤(((bv:Nat):Int))))&&(decide ((((bv:Nat):Int))≤(122))))) || ((decide ((65)≤(((bv:Nat):Int))))&&(decide ((((bv:Nat):Int))≤(90))))) == false) then Value.bool ((((bv:Nat):Int)) == (95)) else undef),fun v _=>v=Value.bool (((((decide ((48)≤(((bv:Nat):Int))))&&(decide ((((bv:Nat):Int))≤(57)))) || ((decide ((97)≤(((bv:Nat):Int))))&&(decide ((((bv:Nat):Int))≤(122))))) || ((decide ((65)≤(((bv:Nat):Int))))&&(decide ((((bv:Nat):Int))≤(90))))) || ((((bv:Nat):Int)) == (95)))] (fun _=>false) (by kernel_rfl) (by kernel_rfl) (by repeat (first|exact trivial|refine⟨stable_eq _,?_⟩)) (fun _ _ h=>by cases h) ?ob ?en
 case ob =>
  refine⟨?_,?_,?_,?_,?_,?_,?_,?_,?_,?_,?_,?_,?_,?_,?_,?_,?_,?_,?_,?_,?_,?_,?_,?_,?_,?_,trivial⟩<;>intro A W h
  ·exact rs_pure rfl (run_cp (.inl rfl) (h.frame 5 rfl))
  ·exact rs_pure rfl ((by have e18:A.eval (.tmp 18)=Value.int .u8 (((bv:Nat):Int)):=h.dep 0 18 rfl rfl;simp only[execOp,e18];simp[go_sem]))
  ·exact rs_pure rfl (run_cp (.inl rfl) (h.dep 1 19 rfl rfl))
  ·refine sy_ (h.dep 2 20 rfl rfl) fun hC=>?_;exact run_cp (.inl rfl) (h.frame 5 rfl)
  ·refine sy_ (h.dep 2 20 rfl rfl) fun hC=>?_;exact(by have e21:A.eval (.tmp 21)=Value.int .u8 (((bv:Nat):Int)):=bif_at (h.dep 3 21 rfl rfl) hC;simp only[execOp,e21];simp[go_sem])
  ·exact rs_pure rfl (run_and rfl (h.dep 2 20 rfl rfl) (fun hb2=>bif_at (h.dep 4 22 rfl rfl) (by (first|(rw[hb2];rfl)|simp[hb2]))))
  ·exact rs_pure rfl (run_cp (.inl rfl) (h.dep 5 23 rfl rfl))
  ·refine sy_ (h.dep 6 24 rfl rfl) fun hC=>?_;exact run_cp (.inl rfl) (h.frame 5 rfl)
  ·refine sy_ (h.dep 6 24 rfl rfl) fun hC=>?_;exact(by have e25:A.eval (.tmp 25)=Value.int .u8 (((bv:Nat):Int)):=bif_at (h.dep 7 25 rfl rfl) hC;simp only[execOp,e25];simp[go_sem])
  ·refine sy_ (h.dep 6 24 rfl rfl) fun hC=>?_;exact run_cp (.inl rfl) (bif_at (h.dep 8 26 rfl rfl) hC)
  ·refine sy_ (h.dep 9 27 rfl rfl) fun hC=>?_;exact run_cp (.inl rfl) (h.frame 5 rfl)
  ·refine sy_ (h.dep 9 27 rfl rfl) fun hC=>?_;exact(by have e28:A.eval (.tmp 28)=Value.int .u8 (((bv:Nat):Int)):=bif_at (h.dep 10 28 rfl rfl) hC;simp only[execOp,e28];simp[go_sem])
  ·refine sy_ (h.dep 6 24 rfl rfl) fun hC=>?_;exact run_and rfl (bif_at (h.dep 9 27 rfl rfl) hC) (fun hb2=>bif_at (h.dep 11 29 rfl rfl) (by (first|(rw[hC,hb2];rfl)|(rw[hb2];rfl)|simp[hb2,hC])))
  ·exact rs_pure rfl (run_or rfl (h.dep 6 24 rfl rfl) (fun hb2=>bif_at (h.dep 12 30 rfl rfl) (by (first|(rw[hb2];rfl)|simp[hb2]))))
  ·exact rs_pure rfl (run_cp (.inl rfl) (h.dep 13 31 rfl rfl))
  ·refine sy_ (h.dep 14 32 rfl rfl) fun hC=>?_;exact run_cp (.inl rfl) (h.frame 5 rfl)
  ·refine sy_ (h.dep 14 32 rfl rfl) fun hC=>?_;exact(by have e33:A.eval (.tmp 33)=Value.int .u8 (((bv:Nat):Int)):=bif_at (h.dep 15 33 rfl rfl) hC;simp only[execOp,e33];simp[go_sem])
  ·refine sy_ (h.dep 14 32 rfl rfl) fun hC=>?_;exact run_cp (.inl rfl) (bif_at (h.dep 16 34 rfl rfl) hC)
  ·refine sy_ (h.dep 17 35 rfl rfl) fun hC=>?_;exact run_cp (.inl rfl) (h.frame 5 rfl)
  ·refine sy_ (h.dep 17 35 rfl rfl) fun hC=>?_;exact(by have e36:A.eval (.tmp 36)=Value.int .u8 (((bv:Nat):Int)):=bif_at (h.dep 18 36 rfl rfl) hC;simp only[execOp,e36];simp[go_sem])
  ·refine sy_ (h.dep 14 32 rfl rfl) fun hC=>?_;exact run_and rfl (bif_at (h.dep 17 35 rfl rfl) hC) (fun hb2=>bif_at (h.dep 19 37 rfl rfl) (by (first|(rw[hC,hb2];rfl)|(rw[hb2];rfl)|simp[hb2,hC])))
  ·exact rs_pure rfl (run_or rfl (h.dep 14 32 rfl rfl) (fun hb2=>bif_at (h.dep 20 38 rfl rfl) (by (first|(rw[hb2];rfl)|simp[hb2]))))
  ·exact rs_pure rfl (run_cp (.inl rfl) (h.dep 21 39 rfl rfl))
  ·refine sy_ (h.dep 22 40 rfl rfl) fun hC=>?_;exact run_cp (.inl rfl) (h.frame 5 rfl)
  ·refine sy_ (h.dep 22 40 rfl rfl) fun hC=>?_;exact(by have e41:A.eval (.tmp 41)=Value.int .u8 (((bv:Nat):Int)):=bif_at (h.dep 23 41 rfl rfl) hC;simp only[execOp,e41];simp[go_sem])
  ·exact rs_pure rfl (run_or rfl (h.dep 22 40 rfl rfl) (fun hb2=>bif_at (h.dep 24 42 rfl rfl) (by (first|(rw[hb2];rfl)|simp[hb2]))))
 case en =>
  intro vals W hbw hv _;have v25:vals 25=_:=hv 25 (by omega)
  simp only[fa,Nat.reduceAdd];rw[v25];clear hv v25
  try simp only[pl]
  have H:=H.call hbw
  go_wp2_with fail
  go_ret;refine⟨?_,H.below⟩;rw[E.out];exact ret_bool (word_expr bv)
theorem sp_feed (p:Option Addr) (c:Nat) (L:Str) (i:Int) (F:Nat→Prop) (w0:World) (hF:∀ b,F b→b<w0.heap.size) (h:BytesR F p c L w0) :
  Calls Tryz.prog 144 #[.slice p L.length c,.int .i64 i] w0 fun e w'=>e=.returned (.bool (feedA L i))∧Below w0.heap.size w0 w':=by
 have hp:=h.at;have H:=Hold.bytes hF h;clear h;obtain⟨n,hn⟩:∃ n,L.length=n:=⟨_,rfl⟩;have HN:=Lib.hid hn;rw[hn]at hp ⊢;clear hn
 by_cases h1:i<0
 ·have d1:decide (i<0)=true:=by simp;exact h1
  have E:=Lib.hid (feedA_out (L:=L) (.inl h1));clear h1
  go_enter Tryz.func144,Tryz.ntmps144
  go_wp2_with (first|fail)
  go_ret;exact⟨by rw[E.out];rfl,H.below⟩
 have d1:decide (i<0)=false:=by simp;omega
 by_cases h2:(n:Int)≤i
 ·have d2:decide ((n:Int)≤i)=true:=by simp;exact h2
  have E:=Lib.hid (feedA_out (L:=L) (.inr (by rw[HN.out];exact h2)))
  clear h1 h2
  go_enter Tryz.func144,Tryz.ntmps144
  go_wp2_with (first|fail)
  go_ret;exact⟨by rw[E.out];rfl,H.below⟩
 have d2:decide ((n:Int)≤i)=false:=by simp;omega
 obtain⟨j,rfl⟩:∃ j:Nat,i=j:=⟨i.toNat,by omega⟩
 have hj:j<n:=by omega
 have d3:decide (n≤j)=false:=decide_eq_false (by omega)
 obtain⟨b,off,rfl⟩:=hp (by omega)
 have E:=Lib.hid (feedA_in (L:=L) (j:=j) (by rw[HN.out];exact hj))
 have hcell:∀ V,BytesR F (some ⟨b,off,none⟩) c L V→V.cell? ⟨b,off+j,none⟩=some (.int .u8 (byt L j)):=fun V h=>h.cell (by rw[HN.out];exact hj)
 have hbl:=byt_lt L j;obtain⟨bv,hv⟩:∃ bv,byt L j=bv:=⟨_,rfl⟩;rw[hv]at hcell E hbl;clear hv h1 h2
 go_enter Tryz.func144,Tryz.ntmps144
 go_wp2_with (first|((with_reducible refine gL ?_);refine own_load1K wtd_ _ _ rfl rfl one_u8 (hcell _ (H.kn (i:=0) .zero)) ?_)|fail)
 go_ret;refine⟨?_,H.below⟩;rw[E.out];exact ret_bool (by rw[Bool.eq_iff_iff];simp;omega)
theorem sp_word (p:Option Addr) (c:Nat) (L:Str) (i:Int) (F:Nat→Prop) (w0:World) (hF:∀ b,F b→b<w0.heap.size) (h:BytesR F p c L w0) :
  Calls Tryz.prog 145 #[.slice p L.length c,.int .i64 i] w0 fun e w'=>e=.returned (.bool (wordA L i))∧Below w0.heap.size w0 w':=by
 have hp:=h.at;have H:=Hold.bytes hF h;clear h;obtain⟨n,hn⟩:∃ n,L.length=n:=⟨_,rfl⟩;have HN:=Lib.hid hn;rw[hn]at hp ⊢;clear hn
 by_cases h1:i<0
 ·have d1:decide (i<0)=true:=by simp;exact h1
  have E:=Lib.hid (wordA_out (L:=L) (.inl h1));clear h1
  go_enter Tryz.func145,Tryz.ntmps145
  go_wp2_with (first|fail)
  go_ret;exact⟨by rw[E.out];rfl,H.below⟩
 have d1:decide (i<0)=false:=by simp;omega
 by_cases h2:(n:Int)≤i
 ·have d2:decide ((n:Int)≤i)=true:=by simp;exact h2
  have E:=Lib.hid (wordA_out (L:=L) (.inr (by rw[HN.out];exact h2)))
  clear h1 h2
  go_enter Tryz.func145,Tryz.ntmps145
  go_wp2_with (first|fail)
  go_ret;exact⟨by rw[E.out];rfl,H.below⟩
 have d2:decide ((n:Int)≤i)=false:=by simp;omega
 obtain⟨j,rfl⟩:∃ j:Nat,i=j:=⟨i.toNat,by omega⟩
 have hj:j<n:=by omega
 have d3:decide (n≤j)=false:=decide_eq_false (by omega)
 obtain⟨b,off,rfl⟩:=hp (by omega)
 have E:=Lib.hid (wordA_in (L:=L) (j:=j) (by rw[HN.out];exact hj))
 have hcell:∀ V,BytesR F (some ⟨b,off,none⟩) c L V→V.cell? ⟨b,off+j,none⟩=some (.int .u8 (byt L j)):=fun V h=>h.cell (by rw[HN.out];exact hj)
 have hbl:=byt_lt L j;obtain⟨bv,hv⟩:∃ bv,byt L j=bv:=⟨_,rfl⟩;rw[hv]at hcell E hbl;clear hv h1 h2
 go_enter Tryz.func145,Tryz.ntmps145
 go_upto_region 4 with (first|((with_reducible refine gL ?_);refine own_load1K wtd_ _ _ rfl rfl one_u8 (hcell _ (H.kn (i:=0) .zero)) ?_)|fail)
 obtain⟨u,hu⟩:∃ u,bits BinOp.or IntKind.u8 (bv:Int) 32=u:=⟨_,rfl⟩;rw[hu];have hu:=Lib.hid hu
 by_cases a1:48≤bv
 ·have ea1:decide (48≤bv)=true:=decide_eq_true a1;have ia1:decide ((48:Int)≤bv)=true:=decide_eq_true (by omega)
  clear a1
  by_cases a2:bv≤57
  ·have ea2:decide (bv≤57)=true:=decide_eq_true a2;have ia2:decide ((bv:Int)≤57)=true:=decide_eq_true (by omega)
   clear a2
   go_wp2_with (first|((with_reducible refine gL ?_);refine own_load1K wtd_ _ _ rfl rfl one_u8 (hcell _ (H.kn (i:=0) .zero)) ?_)|fail)
   go_ret;refine⟨?_,H.below⟩;rw[E.out,wordU bv u hu.out hbl];exact ret_bool (by simp only[ea1,ea2];first|rfl|(rw[Bool.eq_iff_iff];simp<;>omega))
  ·have ea2:decide (bv≤57)=false:=decide_eq_false a2;have ia2:decide ((bv:Int)≤57)=false:=decide_eq_false (by omega)
   clear a2
   by_cases a3:(97:Int)≤u
   ·have ea3:decide ((97:Int)≤u)=true:=decide_eq_true a3;clear a3
    by_cases a4:u≤(122:Int)
    ·have ea4:decide (u≤(122:Int))=true:=decide_eq_true a4;clear a4
     by_cases a5:bv<128
     ·have ea5:decide (bv<128)=true:=decide_eq_true a5;have ia5:decide ((bv:Int)<128)=true:=decide_eq_true (by omega)
      clear a5
      go_wp2_with (first|((with_reducible refine gL ?_);refine own_load1K wtd_ _ _ rfl rfl one_u8 (hcell _ (H.kn (i:=0) .zero)) ?_)|fail)
      go_ret;refine⟨?_,H.below⟩;rw[E.out,wordU bv u hu.out hbl];exact ret_bool (by simp only[ea1,ea2,ea3,ea4,ea5];first|rfl|(rw[Bool.eq_iff_iff];simp<;>omega))
     ·have ea5:decide (bv<128)=false:=decide_eq_false a5;have ia5:decide ((bv:Int)<128)=false:=decide_eq_false (by omega)
      clear a5
      go_wp2_with (first|((with_reducible refine gL ?_);refine own_load1K wtd_ _ _ rfl rfl one_u8 (hcell _ (H.kn (i:=0) .zero)) ?_)|fail)
      go_ret;refine⟨?_,H.below⟩;rw[E.out,wordU bv u hu.out hbl];exact ret_bool (by simp only[ea1,ea2,ea3,ea4,ea5];first|rfl|(rw[Bool.eq_iff_iff];simp<;>omega))
    ·have ea4:decide (u≤(122:Int))=false:=decide_eq_false a4;clear a4
     go_wp2_with (first|((with_reducible refine gL ?_);refine own_load1K wtd_ _ _ rfl rfl one_u8 (hcell _ (H.kn (i:=0) .zero)) ?_)|fail)
     go_ret;refine⟨?_,H.below⟩;rw[E.out,wordU bv u hu.out hbl];exact ret_bool (by simp only[ea1,ea2,ea3,ea4];first|rfl|(rw[Bool.eq_iff_iff];simp<;>omega))
   ·have ea3:decide ((97:Int)≤u)=false:=decide_eq_false a3;clear a3
    go_wp2_with (first|((with_reducible refine gL ?_);refine own_load1K wtd_ _ _ rfl rfl one_u8 (hcell _ (H.kn (i:=0) .zero)) ?_)|fail)
    go_ret;refine⟨?_,H.below⟩;rw[E.out,wordU bv u hu.out hbl];exact ret_bool (by simp only[ea1,ea2,ea3];first|rfl|(rw[Bool.eq_iff_iff];simp<;>omega))
 ·have ea1:decide (48≤bv)=false:=decide_eq_false a1;have ia1:decide ((48:Int)≤bv)=false:=decide_eq_false (by omega)
  clear a1
  by_cases a3:(97:Int)≤u
  ·have ea3:decide ((97:Int)≤u)=true:=decide_eq_true a3;clear a3
   by_cases a4:u≤(122:Int)
   ·have ea4:decide (u≤(122:Int))=true:=decide_eq_true a4;clear a4
    by_cases a5:bv<128
    ·have ea5:decide (bv<128)=true:=decide_eq_true a5;have ia5:decide ((bv:Int)<128)=true:=decide_eq_true (by omega)
     clear a5
     go_wp2_with (first|((with_reducible refine gL ?_);refine own_load1K wtd_ _ _ rfl rfl one_u8 (hcell _ (H.kn (i:=0) .zero)) ?_)|fail)
     go_ret;refine⟨?_,H.below⟩;rw[E.out,wordU bv u hu.out hbl];exact ret_bool (by simp only[ea1,ea3,ea4,ea5];first|rfl|(rw[Bool.eq_iff_iff];simp<;>omega))
    ·have ea5:decide (bv<128)=false:=decide_eq_false a5;have ia5:decide ((bv:Int)<128)=false:=decide_eq_false (by omega)
     clear a5
     go_wp2_with (first|((with_reducible refine gL ?_);refine own_load1K wtd_ _ _ rfl rfl one_u8 (hcell _ (H.kn (i:=0) .zero)) ?_)|fail)
     go_ret;refine⟨?_,H.below⟩;rw[E.out,wordU bv u hu.out hbl];exact ret_bool (by simp only[ea1,ea3,ea4,ea5];first|rfl|(rw[Bool.eq_iff_iff];simp<;>omega))
   ·have ea4:decide (u≤(122:Int))=false:=decide_eq_false a4;clear a4
    go_wp2_with (first|((with_reducible refine gL ?_);refine own_load1K wtd_ _ _ rfl rfl one_u8 (hcell _ (H.kn (i:=0) .zero)) ?_)|fail)
    go_ret;refine⟨?_,H.below⟩;rw[E.out,wordU bv u hu.out hbl];exact ret_bool (by simp only[ea1,ea3,ea4];first|rfl|(rw[Bool.eq_iff_iff];simp<;>omega))
  ·have ea3:decide ((97:Int)≤u)=false:=decide_eq_false a3;clear a3
   go_wp2_with (first|((with_reducible refine gL ?_);refine own_load1K wtd_ _ _ rfl rfl one_u8 (hcell _ (H.kn (i:=0) .zero)) ?_)|fail)
   go_ret;refine⟨?_,H.below⟩;rw[E.out,wordU bv u hu.out hbl];exact ret_bool (by simp only[ea1,ea3];first|rfl|(rw[Bool.eq_iff_iff];simp<;>omega))
end Go.Proofs.YtdoflhjhaciepaaGreat
namespace Go.Proofs.YtdoflhjhaciepaaGreat
open Go.ChangeShapes Go.WideShapes Go.ChangeAt Go.RowKit
theorem inst_fields:(Tryz.prog.underlying 43).map (fun d=>match d with|.struct fs=>fs.map (fun f=>(f.type,f.offset))|_=>#[])=some #[(37,0),(40,1),(3,5),(3,6),(3,7),(41,8)]:=by kernel_rfl
theorem inst_struct:∃ fs:Array Field,Tryz.prog.underlying 43=some (.struct fs)∧fs.map (fun f=>(f.type,f.offset))=#[(37,0),(40,1),(3,5),(3,6),(3,7),(41,8)]:=by
 have h:=inst_fields
 cases hu:Tryz.prog.underlying 43 with
 | none=>rw[hu]at h;cases h
 | some d =>
  rw[hu]at h;simp only[Option.map_some,Option.some.injEq]at h
  cases d with
  | struct fs=>exact⟨fs,rfl,h⟩
  | _=>simp at h
theorem open_instcells {H:Type} {enc:TypeId × Value→H} {W:World} {sp:Nat→Bool} {b0 fuel:Nat} {cs:List Value} {x:DataW H × List MemPlace}
  (hf:DataW.trod enc Tryz.prog W b0 sp true fuel 43 cs=some x):∃ d:InstD,cs=(instC d).toList∧SetOk d.set:=by
 obtain⟨fs,hu,hfs⟩:=inst_struct;obtain⟨xs,n,_,_,hl,hlen,hg⟩:=DataW.trod_struct hu hf;have h9:cs.length=9:=by rw[hl];kernel_rfl
 have hsz:fs.size=6:=by have:=congrArg Array.size hfs;simpa using this
 have get:∀ (i:Nat) (t off k:Nat),(#[(37,0),(40,1),(3,5),(3,6),(3,7),(41,8)]:Array (TypeId × Nat))[i]?=some (t,off)→Tryz.prog.cellsOf t=k→∃ y,DataW.trod enc Tryz.prog W b0 sp true n t ((cs.drop off).take k)=some y:=by
  intro i t off k hi hk;rw[← hfs,Array.getElem?_map]at hi;obtain⟨f,hfi,he⟩:=Option.map_eq_some_iff.1 hi;simp only[Prod.mk.injEq]at he;have h1:=hg i f hfi;rw[he.1,he.2,hk]at h1;have hi6:i<xs.length:=by rw[hlen];exact(Array.getElem?_eq_some_iff.1 hfi).1
  exact⟨xs[i],by rw[h1,List.getElem?_eq_getElem hi6]⟩
 obtain⟨y0,g0⟩:=get 0 37 0 1 rfl (by kernel_rfl)
 obtain⟨y1,g1⟩:=get 1 40 1 4 rfl (by kernel_rfl)
 obtain⟨y2,g2⟩:=get 2 3 5 1 rfl (by kernel_rfl)
 obtain⟨y3,g3⟩:=get 3 3 6 1 rfl (by kernel_rfl)
 obtain⟨y4,g4⟩:=get 4 3 7 1 rfl (by kernel_rfl)
 obtain⟨y5,g5⟩:=get 5 41 8 1 rfl (by kernel_rfl)
 obtain⟨k,e0,_,_⟩:=DataW.trod_int Tryz.underlying37 g0;obtain⟨s,e1,hs⟩:=open_setcells g1;obtain⟨n2,e2,_,_⟩:=DataW.trod_int Tryz.underlying3 g2;obtain⟨n3,e3,_,_⟩:=DataW.trod_int Tryz.underlying3 g3;obtain⟨n4,e4,_,_⟩:=DataW.trod_int Tryz.underlying3 g4;obtain⟨n5,e5,_,_⟩:=DataW.trod_int Tryz.underlying41 g5;refine⟨{kind:=k,set:=s,next:=n2,other:=n3,slot:=n4,spot:=n5},?_,hs⟩
 match cs,h9 with
 | [x0,x1,x2,x3,x4,x5,x6,x7,x8],_ =>
  simp[setC]at e0 e1 e2 e3 e4 e5;obtain⟨rfl,rfl,rfl,rfl⟩:=e1;subst e0 e2 e3 e4 e5;rfl
theorem open_insts {H:Type} {enc:TypeId × Value→H} {W:World} {v:Value} {d:DataW H} {p:List MemPlace} (hv:∃ a l c,v=.slice a l c)
  (h:DataW.Trod enc Tryz.prog W 0 (fun _=>true) true 22 v d p) :
  ∃ (ps:List InstD) (q:Option Addr) (c:Nat),v=.slice q ps.length c∧InstsR (fun b=>b<W.heap.size) q c ps W∧∀ x ∈ ps,SetOk x.set:=by
 obtain⟨a0,l0,c0,rfl⟩:=hv;obtain⟨fuel,hf⟩:=h;have hc9:Tryz.prog.cellsOf 43=9:=by kernel_rfl
 rcases Go.Deep.open_slice Tryz.underlying22 hf with ⟨hcs,hx⟩|⟨x,l,c,m,n,D,Pl,hcs,_,hl,hm,hmm,hx,hel⟩
 ·simp[Value.cells]at hcs;obtain⟨rfl,rfl,rfl⟩:=hcs;exact⟨[],none,0,rfl,RdN.nil ..,fun x hx=>by cases hx⟩
 ·simp[Value.cells]at hcs;obtain⟨rfl,rfl,rfl⟩:=hcs;simp only[if_true]at hmm;obtain rfl:=hmm;rw[hc9]at hel
  by_cases hcz:l0=0
  ·subst hcz;exact⟨[],some x,m,rfl,⟨some x,m,rfl,Nat.zero_le _,hm,(fun h=>by cases h),fun j r hr=>by simp at hr⟩,fun x hx=>by cases hx⟩
  ·obtain⟨cs',h1,_⟩:=hel 0 (by omega)
   obtain⟨_,hlen,hc⟩:=World.cells?_some h1;have h0:=hc 0 (by omega)
   rw[Go.Deep.add_add]at h0;obtain⟨b,off,hxe,hb⟩:=addr_plain (by rw[h0];exact List.getElem?_eq_getElem (by omega))
   have hx0:x=⟨b,off,none⟩:=by
    obtain⟨xb,xo,xs⟩:=x;simp only[Addr.add]at hxe;split at hxe<;>simp_all
   subst hx0;have had:∀ j,(⟨b,off,none⟩:Addr).add j=⟨b,off+j,none⟩:=fun j=>by unfold Addr.add;split<;>simp_all
   have hA:∀ i,i<l0→∃ d:InstD,SetOk d.set∧∀ k,k<9→W.cell? ⟨b,off+i * 9+k,none⟩=(instC d)[k]?:=by
    intro i hi;obtain⟨cs2,g1,g2⟩:=hel i (by omega)
    obtain⟨d,rfl,hs⟩:=open_instcells g2;obtain⟨_,_,hc2⟩:=World.cells?_some g1;refine⟨d,hs,fun k hk=>?_⟩
    have:=hc2 k hk;rw[Go.Deep.add_add,had,← Nat.add_assoc]at this;rw[this];simp
   haveI inhI:Inhabited InstD:=⟨{kind:=0}⟩
   obtain⟨F,hF⟩:=Go.Deep.choose_lt (α:=InstD) hA;refine⟨(List.range l0).map F,some ⟨b,off,none⟩,m,by simp,⟨_,m,by simp,by simpa using hl,hm,(fun h=>by cases h),fun j r hr=>⟨b,off,rfl,hb,?_,?_⟩⟩,fun t ht=>?_⟩
   ·rw[List.getElem?_map]at hr;obtain⟨y,_,rfl⟩:=Option.map_eq_some_iff.1 hr;rfl
   ·rw[List.getElem?_map]at hr;obtain⟨y,hy,rfl⟩:=Option.map_eq_some_iff.1 hr;rw[List.getElem?_map]at hy;obtain⟨j',hj',rfl⟩:=Option.map_eq_some_iff.1 hy;obtain⟨hlt,e⟩:=List.getElem?_eq_some_iff.1 hj';simp at hlt e;subst e;exact(hF j hlt).2
   ·obtain⟨j,hj,rfl⟩:=List.mem_map.1 ht;exact(hF j (by simpa using hj)).1
theorem u8_lit {x:Int} (h:(Lit.int .u8 x).wf=true):0≤x∧x≤255:=by
 simp[Lit.wf]at h;have h1:IntKind.u8.min=0:=by decide
 have h2:IntKind.u8.max=255:=by decide
 omega
theorem u8_of {x:Int} (h:0≤x∧x≤255):((UInt8.ofNat x.toNat).toNat:Int)=x:=by
 have:(UInt8.ofNat x.toNat).toNat=x.toNat % 256:=by simp
 rw[this];omega
end Go.Proofs.YtdoflhjhaciepaaGreat
namespace Go.Proofs.YtdoflhjhaciepaaGreat
open Go.RowKit Go.Shelf
attribute [local go_sem] Oper.semAt_some
theorem spot_in {k:Int} {L:Str} {j:Nat} (h:j≤L.length):isSpot k L j=(if k=8 then (j:Int) == 0 else if k=9 then (j:Int) == L.length else if k=10 then feedA L ((j:Int) - 1) else if k=11 then feedA L j else if k=12 then wordA L ((j:Int) - 1) != wordA L j else if k=13 then wordA L ((j:Int) - 1) == wordA L j else false):=by
 unfold isSpot;rw[if_neg (by omega)]
 have h10:((j:Int) == 0 || byt L ((j:Int) - 1).toNat == 10)=feedA L ((j:Int) - 1):=by
  unfold feedA
  by_cases h0:j=0
  ·subst h0;simp
  ·rw[if_neg (by omega)]
   have:((j:Int) == 0)=false:=by rw[beq_eq_false_iff_ne];omega
   rw[this,Bool.false_or]
 have h11:((j:Int) == L.length || byt L (j:Int).toNat == 10)=feedA L j:=by
  unfold feedA
  by_cases h0:j=L.length
  ·rw[if_pos (by omega)];simp[h0]
  ·rw[if_neg (by omega)]
   have:((j:Int) == L.length)=false:=by rw[beq_eq_false_iff_ne];omega
   rw[this,Bool.false_or]
 rw[h10,h11]
theorem spot_out {k:Int} {L:Str} {i:Int} (h:i<0∨(L.length:Int)<i):isSpot k L i=false:=by
 unfold isSpot;rw[if_pos h]
section
variable (p:Option Addr) (c:Nat) (L:Str) (F:Nat→Prop) (w0:World) (hF:∀ b,F b→b<w0.heap.size) (h:BytesR F p c L w0)
include hF h
theorem sp_spot (k:Int) (j:Nat) (hj:j≤L.length) :
  Calls Tryz.prog 114 #[.slice p L.length c,.int .i64 k,.int .i64 j] w0 fun e w'=>e=.returned (.bool (isSpot k L j))∧Below w0.heap.size w0 w':=by
 have hbd:=h.bound;have H:=Hold.bytes hF h;clear h;have hfe:=fun w i h1 h2=>sp_feed p c L i F w h1 h2
 have hwo:=fun w i h1 h2=>sp_word p c L i F w h1 h2
 have E:=spot_in (k:=k) hj;obtain⟨n,hn⟩:∃ n,L.length=n:=⟨_,rfl⟩;rw[hn]at hj hfe hwo hbd E ⊢;clear hn;have hw1:IntKind.i64.wrap ((j:Int) - 1)=(j:Int) - 1:=by rw[IntKind.wrap_i64];omega
 have hfe1:=fun w=>hfe w ((j:Int) - 1)
 have hfe2:=fun w=>hfe w (j:Int)
 have hwo1:=fun w=>hwo w ((j:Int) - 1)
 have hwo2:=fun w=>hwo w (j:Int)
 clear hfe hwo
 generalize isSpot k L j=res at E ⊢
 generalize feedA L ((j:Int) - 1)=f1 at E hfe1
 generalize feedA L (j:Int)=f2 at E hfe2
 generalize wordA L ((j:Int) - 1)=q1 at E hwo1
 generalize wordA L (j:Int)=q2 at E hwo2
 by_cases k8:k=8
 ·have d8:(k == 8)=true:=by rw[beq_iff_eq];exact k8
  rw[if_pos k8]at E;have E:=Lib.hid E;clear k8
  go_enter Tryz.func114,Tryz.ntmps114
  go_wp2_with (first|fail)
  go_ret;refine⟨?_,H.below⟩;rw[E.out];rfl
 have d8:(k == 8)=false:=by rw[beq_eq_false_iff_ne];exact k8
 by_cases k9:k=9
 ·have d9:(k == 9)=true:=by rw[beq_iff_eq];exact k9
  rw[if_neg k8,if_pos k9]at E;have E:=Lib.hid E;clear k8 k9
  go_enter Tryz.func114,Tryz.ntmps114
  go_wp2_with (first|fail)
  go_ret;refine⟨?_,H.below⟩;rw[E.out];rfl
 have d9:(k == 9)=false:=by rw[beq_eq_false_iff_ne];exact k9
 by_cases k10:k=10
 ·have d10:(k == 10)=true:=by rw[beq_iff_eq];exact k10
  rw[if_neg k8,if_neg k9,if_pos k10]at E;have E:=Lib.hid E;clear k8 k9 k10
  go_enter Tryz.func114,Tryz.ntmps114
  go_wp2_with (first|fail|(go_at_call 144;refine ch (hfe1 _ (H.knlt (i:=0) .zero) (H.kn (i:=0) .zero)) H ?_;clear H;intro w H))
  go_ret;refine⟨?_,H.below⟩;rw[E.out];rfl
 have d10:(k == 10)=false:=by rw[beq_eq_false_iff_ne];exact k10
 by_cases k11:k=11
 ·have d11:(k == 11)=true:=by rw[beq_iff_eq];exact k11
  rw[if_neg k8,if_neg k9,if_neg k10,if_pos k11]at E;have E:=Lib.hid E;clear k8 k9 k10 k11
  go_enter Tryz.func114,Tryz.ntmps114
  go_wp2_with (first|fail|(go_at_call 144;refine ch (hfe2 _ (H.knlt (i:=0) .zero) (H.kn (i:=0) .zero)) H ?_;clear H;intro w H))
  go_ret;refine⟨?_,H.below⟩;rw[E.out];rfl
 have d11:(k == 11)=false:=by rw[beq_eq_false_iff_ne];exact k11
 by_cases k12:k=12
 ·have d12:(k == 12)=true:=by rw[beq_iff_eq];exact k12
  rw[if_neg k8,if_neg k9,if_neg k10,if_neg k11,if_pos k12]at E;have E:=Lib.hid E;clear k8 k9 k10 k11 k12
  go_enter Tryz.func114,Tryz.ntmps114
  go_wp2_with (first|fail|(go_at_call 145;first|(with_reducible refine ch (hwo1 _ (H.knlt (i:=0) .zero) (H.kn (i:=0) .zero)) H ?_;clear H;intro w H)|(with_reducible refine ch (hwo2 _ (H.knlt (i:=0) .zero) (H.kn (i:=0) .zero)) H ?_;clear H;intro w H)))
  go_ret;refine⟨?_,H.below⟩;rw[E.out];exact ret_bool (by cases q1<;>cases q2<;>rfl)
 have d12:(k == 12)=false:=by rw[beq_eq_false_iff_ne];exact k12
 by_cases k13:k=13
 ·have d13:(k == 13)=true:=by rw[beq_iff_eq];exact k13
  rw[if_neg k8,if_neg k9,if_neg k10,if_neg k11,if_neg k12,if_pos k13]at E;have E:=Lib.hid E;clear k8 k9 k10 k11 k12 k13
  go_enter Tryz.func114,Tryz.ntmps114
  go_wp2_with (first|fail|(go_at_call 145;first|(with_reducible refine ch (hwo1 _ (H.knlt (i:=0) .zero) (H.kn (i:=0) .zero)) H ?_;clear H;intro w H)|(with_reducible refine ch (hwo2 _ (H.knlt (i:=0) .zero) (H.kn (i:=0) .zero)) H ?_;clear H;intro w H)))
  go_ret;refine⟨?_,H.below⟩;rw[E.out];exact ret_bool (by cases q1<;>cases q2<;>rfl)
 have d13:(k == 13)=false:=by rw[beq_eq_false_iff_ne];exact k13
 rw[if_neg k8,if_neg k9,if_neg k10,if_neg k11,if_neg k12,if_neg k13]at E;have E:=Lib.hid E;clear k8 k9 k10 k11 k12 k13
 go_enter Tryz.func114,Tryz.ntmps114
 go_wp2_with (first|fail)
 go_ret;exact⟨by rw[E.out];rfl,H.below⟩
theorem sp_Spot (k:Int) (i:Int) :
  Calls Tryz.prog 77 #[.int .i64 k,.slice p L.length c,.int .i64 i] w0 fun e w'=>e=.returned (.bool (isSpot k L i))∧Below w0.heap.size w0 w':=by
 have hsp:=fun w h1 h2=>sp_spot p c L F w h1 h2 k
 have H:=Hold.bytes hF h;clear h
 by_cases h1:i<0
 ·have d1:decide (0≤i)=false:=decide_eq_false (by omega)
  have E:=Lib.hid (spot_out (k:=k) (L:=L) (.inl h1));clear h1 hsp
  go_enter Tryz.func77,Tryz.ntmps77
  go_wp2_with (first|fail)
  go_ret;exact⟨by rw[E.out];rfl,H.below⟩
 by_cases h2:(L.length:Int)<i
 ·have d1:decide (0≤i)=true:=decide_eq_true (by omega)
  have d2:decide (i≤(L.length:Int))=false:=decide_eq_false (by omega)
  have E:=Lib.hid (spot_out (k:=k) (L:=L) (.inr h2));clear h1 h2 hsp
  go_enter Tryz.func77,Tryz.ntmps77
  go_wp2_with (first|fail)
  go_ret;exact⟨by rw[E.out];rfl,H.below⟩
 obtain⟨j,rfl⟩:∃ j:Nat,i=j:=⟨i.toNat,by omega⟩
 have hj:j≤L.length:=by omega
 have hs2:=fun w h1 h2=>hsp w h1 h2 j hj
 have d2:decide (j≤L.length)=true:=decide_eq_true hj;have d3:decide ((j:Int)≤(L.length:Int))=true:=decide_eq_true (by omega)
 clear hsp h1 h2 hj
 generalize isSpot k L j=res at hs2 ⊢
 go_enter Tryz.func77,Tryz.ntmps77
 go_wp2_with (first|fail|(go_at_call 114;(with_reducible refine ch (hs2 _ (H.knlt (i:=0) .zero) (H.kn (i:=0) .zero)) H ?_);clear H;intro w H))
 go_ret;exact⟨ret_bool (by simp),H.below⟩
theorem ref_Spot12 (k:Int) (i:Int) :
  Calls Tryz.prog 79 #[.int .i64 k,.slice p L.length c,.int .i64 i] w0 fun e w'=>e=.returned (.bool (isSpot k L i))∧Below w0.heap.size w0 w':=by
 have hbd:=h.bound;have hp:=h.at;have H:=Hold.bytes hF h;clear h;have hwo:=fun w i h1 h2=>ref_word12 p c L i F w h1 h2
 by_cases h1:i<0
 ·have d1:decide (i<0)=true:=decide_eq_true (by omega)
  have E:=Lib.hid (spot_out (k:=k) (L:=L) (.inl h1));clear h1 hwo
  go_enter Tryz.func79,Tryz.ntmps79
  go_wp2_with (first|fail)
  go_ret;exact⟨by rw[E.out];rfl,H.below⟩
 by_cases h2:(L.length:Int)<i
 ·have d1:decide (i<0)=false:=decide_eq_false (by omega)
  have d2:decide ((L.length:Int)<i)=true:=decide_eq_true h2;have E:=Lib.hid (spot_out (k:=k) (L:=L) (.inr h2));clear h1 h2 hwo
  go_enter Tryz.func79,Tryz.ntmps79
  go_wp2_with (first|fail)
  go_ret;exact⟨by rw[E.out];rfl,H.below⟩
 obtain⟨j,rfl⟩:∃ j:Nat,i=j:=⟨i.toNat,by omega⟩
 have hj:j≤L.length:=by omega
 have E:=spot_in (k:=k) hj;obtain⟨n,hn⟩:∃ n,L.length=n:=⟨_,rfl⟩;rw[hn]at hj hwo hbd hp E ⊢;have HN:=Lib.hid hn;clear hn h1 h2;have d2:decide (n<j)=false:=decide_eq_false (by omega)
 have d3:decide ((n:Int)<(j:Int))=false:=decide_eq_false (by omega)
 have hw1:IntKind.i64.wrap ((j:Int) - 1)=(j:Int) - 1:=by rw[IntKind.wrap_i64];omega
 have hwo1:=fun w=>hwo w ((j:Int) - 1)
 have hwo2:=fun w=>hwo w (j:Int)
 clear hwo
 generalize isSpot k L j=res at E ⊢
 by_cases k8:k=8
 ·have d8:(k == 8)=true:=by rw[beq_iff_eq];exact k8
  rw[if_pos k8]at E;have E:=Lib.hid E;clear k8
  go_enter Tryz.func79,Tryz.ntmps79
  go_wp2_with (first|fail)
  go_ret;refine⟨?_,H.below⟩;rw[E.out];rfl
 have d8:(k == 8)=false:=by rw[beq_eq_false_iff_ne];exact k8
 by_cases k9:k=9
 ·have d9:(k == 9)=true:=by rw[beq_iff_eq];exact k9
  rw[if_neg k8,if_pos k9]at E;have E:=Lib.hid E;clear k8 k9
  go_enter Tryz.func79,Tryz.ntmps79
  go_wp2_with (first|fail)
  go_ret;refine⟨?_,H.below⟩;rw[E.out];rfl
 have d9:(k == 9)=false:=by rw[beq_eq_false_iff_ne];exact k9
 by_cases k10:k=10
 ·have d10:(k == 10)=true:=by rw[beq_iff_eq];exact k10
  rw[if_neg k8,if_neg k9,if_pos k10]at E
  by_cases h0:j=0
  ·subst h0;have E:res=true:=by rw[E];exact feedA_out (.inl (by omega))
   have E:=Lib.hid E;clear k8 k9 k10
   go_enter Tryz.func79,Tryz.ntmps79
   go_wp2_with (first|fail)
   go_ret;refine⟨?_,H.below⟩;rw[E.out];rfl
  ·obtain⟨q,rfl⟩:∃ q,j=q+1:=⟨j - 1,by omega⟩
   have E:res=(byt L q == 10):=by rw[E,show ((q+1:Nat):Int) - 1=(q:Int) by omega];exact feedA_in (by rw[HN.out];omega)
   have d4:(((q+1:Nat):Int) == 0)=false:=by rw[beq_eq_false_iff_ne];omega
   have d5:((q:Int)+1 == 0)=false:=by rw[beq_eq_false_iff_ne];omega
   obtain⟨b,off,rfl⟩:=hp (by omega)
   have hcell:∀ V,BytesR F (some ⟨b,off,none⟩) c L V→V.cell? ⟨b,off+q,none⟩=some (.int .u8 (byt L q)):=fun V h=>h.cell (by rw[HN.out];omega)
   generalize byt L q=bv at E hcell
   have E:=Lib.hid E;clear hw1 hwo1 hwo2 h0;clear k8 k9 k10
   go_enter Tryz.func79,Tryz.ntmps79
   go_wp2_with (first|((with_reducible refine gL ?_);refine own_load1K wtd_ _ _ rfl rfl one_u8 (hcell _ (H.kn (i:=0) .zero)) ?_)|fail)
   go_ret;refine⟨?_,H.below⟩;rw[E.out];exact ret_bool (by rw[Bool.eq_iff_iff];simp;omega)
 have d10:(k == 10)=false:=by rw[beq_eq_false_iff_ne];exact k10
 by_cases k11:k=11
 ·have d11:(k == 11)=true:=by rw[beq_iff_eq];exact k11
  rw[if_neg k8,if_neg k9,if_neg k10,if_pos k11]at E
  by_cases h0:j=n
  ·subst h0;have E:res=true:=by rw[E];exact feedA_out (.inr (by rw[HN.out];omega))
   have E:=Lib.hid E;clear k8 k9 k10 k11
   go_enter Tryz.func79,Tryz.ntmps79
   go_wp2_with (first|fail)
   go_ret;refine⟨?_,H.below⟩;rw[E.out];rfl
  ·have E:res=(byt L j == 10):=by rw[E];exact feedA_in (by rw[HN.out];omega)
   have d4:((j:Int) == (n:Int))=false:=by rw[beq_eq_false_iff_ne];omega
   obtain⟨b,off,rfl⟩:=hp (by omega)
   have hcell:∀ V,BytesR F (some ⟨b,off,none⟩) c L V→V.cell? ⟨b,off+j,none⟩=some (.int .u8 (byt L j)):=fun V h=>h.cell (by rw[HN.out];omega)
   have hjn:j<n:=by omega
   generalize byt L j=bv at E hcell
   have E:=Lib.hid E;clear hw1 hwo1 hwo2;clear k8 k9 k10 k11
   go_enter Tryz.func79,Tryz.ntmps79
   go_wp2_with (first|((with_reducible refine gL ?_);refine own_load1K wtd_ _ _ rfl rfl one_u8 (hcell _ (H.kn (i:=0) .zero)) ?_)|fail)
   go_ret;refine⟨?_,H.below⟩;rw[E.out];exact ret_bool (by rw[Bool.eq_iff_iff];simp;omega)
 have d11:(k == 11)=false:=by rw[beq_eq_false_iff_ne];exact k11
 generalize wordA L ((j:Int) - 1)=q1 at E hwo1
 generalize wordA L (j:Int)=q2 at E hwo2
 by_cases k12:k=12
 ·have d12:(k == 12)=true:=by rw[beq_iff_eq];exact k12
  rw[if_neg k8,if_neg k9,if_neg k10,if_neg k11,if_pos k12]at E;have E:=Lib.hid E;clear k8 k9 k10 k11 k12
  go_enter Tryz.func79,Tryz.ntmps79
  go_wp2_with (first|(go_at_call 115;first|(with_reducible refine ch (hwo1 _ (H.knlt (i:=0) .zero) (H.kn (i:=0) .zero)) H ?_;clear H;intro w H)|(with_reducible refine ch (hwo2 _ (H.knlt (i:=0) .zero) (H.kn (i:=0) .zero)) H ?_;clear H;intro w H))|fail)
  go_ret;refine⟨?_,H.below⟩;rw[E.out];exact ret_bool (by cases q1<;>cases q2<;>rfl)
 have d12:(k == 12)=false:=by rw[beq_eq_false_iff_ne];exact k12
 by_cases k13:k=13
 ·have d13:(k == 13)=true:=by rw[beq_iff_eq];exact k13
  rw[if_neg k8,if_neg k9,if_neg k10,if_neg k11,if_neg k12,if_pos k13]at E;have E:=Lib.hid E;clear k8 k9 k10 k11 k12 k13
  go_enter Tryz.func79,Tryz.ntmps79
  go_wp2_with (first|(go_at_call 115;first|(with_reducible refine ch (hwo1 _ (H.knlt (i:=0) .zero) (H.kn (i:=0) .zero)) H ?_;clear H;intro w H)|(with_reducible refine ch (hwo2 _ (H.knlt (i:=0) .zero) (H.kn (i:=0) .zero)) H ?_;clear H;intro w H))|fail)
  go_ret;refine⟨?_,H.below⟩;rw[E.out];exact ret_bool (by cases q1<;>cases q2<;>rfl)
 have d13:(k == 13)=false:=by rw[beq_eq_false_iff_ne];exact k13
 rw[if_neg k8,if_neg k9,if_neg k10,if_neg k11,if_neg k12,if_neg k13]at E;have E:=Lib.hid E;clear k8 k9 k10 k11 k12 k13
 go_enter Tryz.func79,Tryz.ntmps79
 go_wp2_with (first|fail)
 go_ret;exact⟨by rw[E.out];rfl,H.below⟩
end
end Go.Proofs.YtdoflhjhaciepaaGreat
namespace Go.Proofs.YtdoflhjhaciepaaGreat
open Go.RowKit
def Sof (L:Nat) (sn:List Bool):Nat→Nat→Bool:=fun a j=>decide (j≤L)&&sn.getD (a * (L+1)+j) false
theorem place_inj {L a j k i:Nat} (hj:j≤L) (hi:i≤L) (h:a * (L+1)+j=k * (L+1)+i):a=k∧j=i:=by
 have e1:(a * (L+1)+j) / (L+1)=a:=by rw[Nat.mul_comm,Nat.mul_add_div (by omega),Nat.div_eq_of_lt (by omega),Nat.add_zero]
 have e2:(k * (L+1)+i) / (L+1)=k:=by rw[Nat.mul_comm,Nat.mul_add_div (by omega),Nat.div_eq_of_lt (by omega),Nat.add_zero]
 have e:a=k:=by rw[← e1,← e2,h]
 subst e;exact⟨rfl,by omega⟩
theorem place_lt {L k i n:Nat} (hk:k<n) (hi:i≤L):k * (L+1)+i<n * (L+1):=by
 have:(k+1) * (L+1)≤n * (L+1):=Nat.mul_le_mul_right _ hk;rw[Nat.succ_mul]at this;omega
theorem Sof_set {L k i:Nat} {sn:List Bool} (hi:i≤L) (hk:k * (L+1)+i<sn.length):Sof L (sn.set (k * (L+1)+i) true)=upS (Sof L sn) k i:=by
 funext a j
 unfold Sof upS
 by_cases hj:j≤L
 ·by_cases e:a * (L+1)+j=k * (L+1)+i
  ·obtain⟨rfl,rfl⟩:=place_inj hj hi e;simp[hj,List.getD_eq_getElem?_getD,hk]
  ·have e2:¬ (a=k∧j=i):=fun h=>e (by rw[h.1,h.2])
   simp[hj,e2,List.getD_eq_getElem?_getD,Ne.symm e]
 ·have e2:¬ (a=k∧j=i):=fun h=>hj (h.2 ▸ hi)
  simp[hj,e2]
theorem Sof_at {L k i:Nat} {sn:List Bool} {b:Bool} (hi:i≤L) (h:sn[k * (L+1)+i]?=some b):Sof L sn k i=b:=by
 unfold Sof;simp[hi,List.getD_eq_getElem?_getD,h]
def unF (sn:List Bool):Nat:=sn.countP (fun b=>!b)
theorem unF_set:∀ {sn:List Bool} {k:Nat},sn[k]?=some false→unF (sn.set k true)+1=unF sn
 | [],_,h=>by simp at h
 | x::r,0,h=>by simp at h;subst h;simp[unF]
 | x::r,k+1,h=>by
  have:=unF_set (sn:=r) (k:=k) (by simpa using h)
  simp only[unF,List.set_cons_succ,List.countP_cons]at *;omega
structure WayT (p:List InstD) (s:Str) (k i:Nat) (sl:Slots) (sn:List Bool) (b:Bool) (sn':List Bool) (sl':Slots):Prop where
 len:sn'.length=sn.length
 slen:sl'.length=sl.length
 un:unF sn'≤unF sn
 hit:b=true→∀ (f:Option Slots) (r:List Ent),Dfs p s f ((k,i,sl)::r) (Sof s.length sn) (some sl')
 miss:b=false→sl'=sl∧∀ (f:Option Slots) (r:List Ent) (res:Option Slots),Dfs p s f r (Sof s.length sn') res→Dfs p s f ((k,i,sl)::r) (Sof s.length sn) res
section
variable {p:List InstD} {s:Str} {k i:Nat} {sl sl1 sl2:Slots} {sn sn1 sn2:List Bool} {b:Bool}
theorem WayT.seen (hi:i≤s.length) (h:sn[k * (s.length+1)+i]?=some true):WayT p s k i sl sn false sn sl :=
 ⟨rfl,rfl,Nat.le_refl _,fun h=>(by cases h),fun _=>⟨rfl,fun f r res hr=>.seen _ _ _ _ _ _ (Sof_at hi h) hr⟩⟩
structure Marked (s:Str) (k i:Nat) (sn sn1:List Bool):Prop where
 at0:Sof s.length sn k i=false
 up:Sof s.length sn1=upS (Sof s.length sn) k i
 len:sn1.length=sn.length
 un:unF sn1+1=unF sn
theorem Marked.of (hi:i≤s.length) (h:sn[k * (s.length+1)+i]?=some false):Marked s k i sn (sn.set (k * (s.length+1)+i) true) :=
 ⟨Sof_at hi h,Sof_set hi (List.getElem?_eq_some_iff.1 h).1,by simp,unF_set h⟩
theorem WayT.match (h:Marked s k i sn sn1) (hk:(atI p k).kind=5):WayT p s k i sl sn true sn1 sl :=
 ⟨h.len,rfl,by have:=h.un;omega,fun _ f r=>.hit _ _ _ _ _ h.at0 hk,fun h=>by cases h⟩
theorem WayT.none (h:Marked s k i sn sn1) (hk:(atI p k).kind≠5) (hs:sucE p s k i sl=[]):WayT p s k i sl sn false sn1 sl :=
 ⟨h.len,rfl,by have:=h.un;omega,fun h=>(by cases h),fun _=>⟨rfl,fun f r res hr=>.go _ _ _ _ _ _ h.at0 hk (by rw[hs,← h.up];exact hr)⟩⟩
theorem WayT.one (h:Marked s k i sn sn1) (hk:(atI p k).kind≠5) {k2 i2:Nat} (hs:sucE p s k i sl=[(k2,i2,sl)]) (hw:WayT p s k2 i2 sl sn1 b sn2 sl2):WayT p s k i sl sn b sn2 sl2 :=
 ⟨hw.len.trans h.len,hw.slen,by have:=h.un;have:=hw.un;omega,fun hb f r=>.go _ _ _ _ _ _ h.at0 hk (by rw[hs,← h.up];exact hw.hit hb f r),fun hb=>⟨(hw.miss hb).1,fun f r res hr=>.go _ _ _ _ _ _ h.at0 hk (by rw[hs,← h.up];exact(hw.miss hb).2 f r res hr)⟩⟩
theorem WayT.first (h:Marked s k i sn sn1) (hk:(atI p k).kind≠5) {k2 i2:Nat} {e:Ent} (hs:sucE p s k i sl=[(k2,i2,sl),e]) (hw:WayT p s k2 i2 sl sn1 true sn2 sl2):WayT p s k i sl sn true sn2 sl2 :=
 ⟨hw.len.trans h.len,hw.slen,by have:=h.un;have:=hw.un;omega,fun hb f r=>.go _ _ _ _ _ _ h.at0 hk (by rw[hs,← h.up];exact hw.hit rfl f _),fun hb=>by cases hb⟩
theorem WayT.second (h:Marked s k i sn sn1) (hk:(atI p k).kind≠5) {k2 i2 k3 i3:Nat} {sn3:List Bool} {sl3:Slots} (hs:sucE p s k i sl=[(k2,i2,sl),(k3,i3,sl)]) (hw:WayT p s k2 i2 sl sn1 false sn2 sl2) (hv:WayT p s k3 i3 sl sn2 b sn3 sl3):WayT p s k i sl sn b sn3 sl3 :=
 ⟨(hv.len.trans hw.len).trans h.len,hv.slen,by have:=h.un;have:=hw.un;have:=hv.un;omega,fun hb f r=>.go _ _ _ _ _ _ h.at0 hk (by rw[hs,← h.up];exact(hw.miss rfl).2 f _ _ (hv.hit hb f r)),
  fun hb=>⟨(hv.miss hb).1,fun f r res hr=>.go _ _ _ _ _ _ h.at0 hk (by rw[hs,← h.up];exact(hw.miss rfl).2 f _ _ ((hv.miss hb).2 f r res hr))⟩⟩
theorem WayT.saved (h:Marked s k i sn sn1) (hk:(atI p k).kind≠5) {k2 i2 j:Nat} {v:Int} (hs:sucE p s k i sl=[(k2,i2,sl.set j v)]) (hw:WayT p s k2 i2 (sl.set j v) sn1 true sn2 sl2):WayT p s k i sl sn true sn2 sl2 :=
 ⟨hw.len.trans h.len,by have:=hw.slen;simpa using this,by have:=h.un;have:=hw.un;omega,fun hb f r=>.go _ _ _ _ _ _ h.at0 hk (by rw[hs,← h.up];exact hw.hit rfl f r),fun hb=>by cases hb⟩
theorem WayT.unsaved (h:Marked s k i sn sn1) (hk:(atI p k).kind≠5) {k2 i2 j:Nat} {v:Int} (hs:sucE p s k i sl=[(k2,i2,sl.set j v)]) (hw:WayT p s k2 i2 (sl.set j v) sn1 false sn2 sl2):WayT p s k i sl sn false sn2 sl :=
 ⟨hw.len.trans h.len,rfl,by have:=h.un;have:=hw.un;omega,fun hb=>(by cases hb),fun hb=>⟨rfl,fun f r res hr=>.go _ _ _ _ _ _ h.at0 hk (by rw[hs,← h.up];exact(hw.miss rfl).2 f r res hr)⟩⟩
theorem atI_get {x:InstD} (h:p[k]?=some x):atI p k=x:=by unfold atI;simp[List.getD_eq_getElem?_getD,h]
theorem suc_set {x:InstD} (h:p[k]?=some x) (h1:x.kind=1) (hb:i<s.length) (hh:hasB x.set (byt s i)=true):sucE p s k i sl=[(x.next.toNat,i+1,sl)]:=by
 unfold sucE;rw[atI_get h];simp[h1,hb,hh]
theorem suc_setN {x:InstD} (h:p[k]?=some x) (h1:x.kind=1) (hb:¬ (i<s.length∧hasB x.set (byt s i)=true)):sucE p s k i sl=[]:=by
 unfold sucE;rw[atI_get h];simp only[h1,if_true];rw[if_neg hb]
theorem suc_split {x:InstD} (h:p[k]?=some x) (h1:x.kind=2):sucE p s k i sl=[(x.next.toNat,i,sl),(x.other.toNat,i,sl)]:=by
 unfold sucE;rw[atI_get h];simp[h1]
theorem suc_save {x:InstD} (h:p[k]?=some x) (h1:x.kind=3):sucE p s k i sl=[(x.next.toNat,i,sl.set x.slot.toNat i)]:=by
 unfold sucE;rw[atI_get h];simp[h1]
theorem suc_spot {x:InstD} (h:p[k]?=some x) (h1:x.kind=4) (hb:isSpot x.spot s i=true):sucE p s k i sl=[(x.next.toNat,i,sl)]:=by
 unfold sucE;rw[atI_get h];simp[h1,hb]
theorem suc_spotN {x:InstD} (h:p[k]?=some x) (h1:x.kind=4) (hb:isSpot x.spot s i=false):sucE p s k i sl=[]:=by
 unfold sucE;rw[atI_get h];simp[h1,hb]
theorem suc_none {x:InstD} (h:p[k]?=some x) (h1:x.kind≠1) (h2:x.kind≠2) (h3:x.kind≠3) (h4:x.kind≠4):sucE p s k i sl=[]:=by
 unfold sucE;rw[atI_get h];simp[h1,h2,h3,h4]
end
def restF (w:World) (l:List Res) (b:Nat):Prop:=b<w.heap.size∧∀ r ∈ l,r.place≠some b
def restS (w:World) (l:List Res) (V:World):Prop:=∀ b,restF w l b→V.heap[b]?=w.heap[b]?
structure Turned (M:Nat→Prop) (w0 w:World) (l1 l2:List Res) (w':World):Prop where
 hold:HoldG M w0 w' l2
 rest:restS w l1 w'
 lt:∀ b,restF w l1 b→b<w'.heap.size
 place:∀ r ∈ l2,∀ b,r.place=some b→(∃ s ∈ l1,s.place=some b)∨w.heap.size≤b
 foot:∀ r ∈ l2,∀ b,r.foot b→(∃ s ∈ l1,s.foot b)∨w.heap.size≤b
theorem Res.Holds.keptF {M:Nat→Prop} {base:Nat} {W W':World} {r:Res} (h:r.Holds M base W) (hk:∀ b,r.foot b→W'.heap[b]?=W.heap[b]?) (hs:∀ b,r.foot b→b<W'.heap.size):r.Holds M base W':=by
 cases r with
 | blk b' cs T=>exact⟨h.1,(hk b' rfl).trans h.2⟩
 | row v e sz n xs =>
  obtain⟨hl,h'|⟨g,cap,cur,rfl,hb,hg,r⟩⟩:=h
  ·exact⟨hl,.inl h'⟩
  ·exact⟨hl,.inr ⟨g,cap,cur,rfl,hb,(hk g rfl).trans hg,r⟩⟩
 | mp b' es c=>exact⟨h.1,(hk b' rfl).trans h.2⟩
 | kn F S=>exact⟨hs,fun W2 h2=>h.2 W2 (fun b hb=>(h2 b hb).trans (hk b hb))⟩
section
variable {M:Nat→Prop} {w0 w w':World} {l l1 l2 l3:List Res}
theorem HoldG.framed (H:HoldG M w0 w l):HoldG M w0 w (l++[.kn (restF w l) (restS w l)]) :=
 H.know (restF w l) (restS w l) (fun b h=>h.1) (fun i r hi b hp hF=>hF.2 r (List.mem_of_getElem? hi) hp) (fun V hV b hb=>hV b hb)
theorem pick_mem {js:List Nat} (h:js.map (fun j=>l[j]?)=l1.map some) {k:Nat} {r:Res} (hk:l1[k]?=some r):∃ j,js[k]?=some j∧l[j]?=some r:=by
 have h1:(l1.map some)[k]?=some (some r):=by rw[List.getElem?_map,hk];rfl
 rw[← h,List.getElem?_map]at h1;exact Option.map_eq_some_iff.1 h1
theorem place_foot_not {r:Res} (hr:∀ F S,r≠.kn F S) {b:Nat} (h:r.foot b):r.place=some b:=by
 cases r with
 | kn F S=>exact absurd rfl (hr F S)
 | _=>exact h
theorem Turned.of {W:World} (H:HoldG M w0 W l) {i:Nat} (hi:At l i (.kn (restF w l1) (restS w l1))) (js:List Nat) (hn:js.Nodup) (hij:i ∉ js) (h:js.map (fun j=>l[j]?)=l2.map some)
  (hk:∀ F S,Res.kn F S ∈ l2→∀ b,F b→(∃ s ∈ l1,s.foot b)∨w.heap.size≤b):Turned M w0 w l1 l2 W:=by
 have hp:∀ r ∈ l2,∀ b,r.place=some b→(∃ s ∈ l1,s.place=some b)∨w.heap.size≤b:=by
  intro r hr b hb;obtain⟨k,hk⟩:=List.getElem?_of_mem hr;obtain⟨j,hj,e⟩:=pick_mem h hk;have hne:j≠i:=fun e=>hij (e ▸ List.mem_of_getElem? hj)
  have ha:=H.apart j i r _ hne e hi.get b hb
  by_cases hlt:b<w.heap.size
  ·refine .inl (Classical.byContradiction fun hno=>ha ⟨hlt,fun s hs hsb=>hno ⟨s,hs,hsb⟩⟩)
  ·exact .inr (by omega)
 refine⟨H.pick js l2 hn h,H.kn hi,H.knlt hi,hp,fun r hr b hb=>?_⟩
 cases r with
 | kn F S=>exact hk F S hr b hb
 | blk b' cs T=>exact(hp _ hr b hb).imp (fun ⟨s,h1,h2⟩=>⟨s,h1,Res.place_foot h2⟩) id
 | row v e sz n xs=>exact(hp _ hr b hb).imp (fun ⟨s,h1,h2⟩=>⟨s,h1,Res.place_foot h2⟩) id
 | mp b' es c=>exact(hp _ hr b hb).imp (fun ⟨s,h1,h2⟩=>⟨s,h1,Res.place_foot h2⟩) id
theorem HoldG.callIn (H:HoldG M w0 w l) (T:Turned M w0 w l1 l2 w') (js ks:List Nat) (h1:js.map (fun j=>l[j]?)=l1.map some) (h3:ks.map (fun j=>l[j]?)=l3.map some) (hn:ks.Nodup) (hd:∀ j ∈ js,j ∉ ks):HoldG M w0 w' (l2++l3):=by
 have A:∀ (k:Nat) (r s:Res),l3[k]?=some r→s ∈ l1→Apart s r∧Apart r s:=by
  intro k r s hk hs;obtain⟨m,hm⟩:=List.getElem?_of_mem hs;obtain⟨j,hj,e⟩:=pick_mem h1 hm;obtain⟨q,hq,e'⟩:=pick_mem h3 hk;have hne:j≠q:=fun e=>hd j (List.mem_of_getElem? hj) (e ▸ List.mem_of_getElem? hq)
  exact⟨H.apart j q s r hne e e',H.apart q j r s (Ne.symm hne) e' e⟩
 have B:∀ (k:Nat) (r:Res),l3[k]?=some r→r.Holds M w0.heap.size w:=by
  intro k r hk;obtain⟨q,_,e'⟩:=pick_mem h3 hk;exact H.all q r e'
 refine⟨T.hold.keep,fun i r hi=>?_,fun i j r s hij hr hs=>?_⟩
 ·rw[List.getElem?_append]at hi;split at hi
  ·exact T.hold.all i r hi
  ·have hr:∀ b,r.foot b→restF w l1 b:=fun b hb=>⟨(B _ r hi).ltf b hb,fun s hs hsb=>(A _ r s hi hs).1 b hsb hb⟩
   exact(B _ r hi).keptF (fun b hb=>T.rest b (hr b hb)) (fun b hb=>T.lt b (hr b hb))
 ·rw[List.getElem?_append]at hr hs;split at hr
  ·split at hs
   ·exact T.hold.apart i j r s hij hr hs
   ·intro b hb hf;rcases T.place r (List.mem_of_getElem? hr) b hb with ⟨q,hq,hqb⟩|h
    ·exact(A _ s q hs hq).1 b hqb hf
    ·have:=(B _ s hs).ltf b hf;omega
  ·split at hs
   ·intro b hb hf;rcases T.foot s (List.mem_of_getElem? hs) b hf with ⟨q,hq,hqb⟩|h
    ·exact(A _ r q hr hq).2 b hb hqb
    ·have:=((B _ r hr).lt b hb).2;omega
   ·obtain⟨p,hp,e⟩:=pick_mem h3 hr;obtain⟨q,hq,e'⟩:=pick_mem h3 hs;refine H.apart p q r s (fun epq=>hij ?_) e e'
    subst epq;obtain⟨a1,a2⟩:=List.getElem?_eq_some_iff.1 hp;obtain⟨b1,b2⟩:=List.getElem?_eq_some_iff.1 hq;have:=(List.getElem_inj hn).1 (a2.trans b2.symm);omega
theorem Turned.below (H:HoldG M w0 w l1) (hb:Below w.heap.size w w'):Turned M w0 w l1 l1 w' :=
 ⟨H.call hb,fun b hb'=>hb.block b hb'.1,fun b hb'=>Nat.lt_of_lt_of_le hb'.1 hb.size,fun r hr b h=>.inl ⟨r,hr,h⟩,fun r hr b h=>.inl ⟨r,hr,h⟩⟩
end
end Go.Proofs.YtdoflhjhaciepaaGreat
namespace Go.Proofs.YtdoflhjhaciepaaGreat
open Go.RowKit Go.Shelf
attribute [local go_sem] Oper.semAt_some
theorem half_pow (x j:Nat):x / 2 ^ (j+1)=x / 2 ^ j / 2:=by rw[Nat.pow_succ,Nat.div_div_eq_div_mul]
theorem half_bit (x j:Nat):(((x:Int) / 2 ^ j).tmod 2 == 1)=x.testBit j:=by
 have e:(x:Int) / 2 ^ j=((x / 2 ^ j:Nat):Int):=by push_cast;rfl
 rw[e,Int.tmod_eq_emod_of_nonneg (Int.natCast_nonneg _),Bool.eq_iff_iff,← bit_nat];simp;omega
theorem ref_Has (s:Nat→Nat) (hs:SetOk s) (b:Nat) (hb:b<256) (w:World) :
  Calls Tryz.prog 78 #[setV s,.int .u8 b] w fun e w'=>e=.returned (.bool (hasB s b))∧Below w.heap.size w w':=by
 obtain⟨r,hr,hr1,hr2,h⟩:=bdiv_cases hb;have hlt:s (b / 64)<2 ^ 64:=hs _ (by omega)
 unfold setV;rcases h with ⟨h1,hq⟩|⟨h1,hq⟩|⟨h1,hq⟩|⟨h1,hq⟩
 all_goals
  rw[h1]at hlt;have H1:=Lib.hid h1;clear h1;have HR:=Lib.hid hr1;clear hr1
  go_enter Tryz.func78,Tryz.ntmps78
  go_wp2_with fail
  go_loop [5,6] (fun n i=>∃ j:Nat,j≤r∧i=.int .u8 j∧n=.int .u64 ((s (b / 64) / 2 ^ j:Nat):Int)) (fun _ i=>r - (intOf i).toNat)
  case atStart=>exact⟨0,by omega,rfl,by rw[H1.out];simp⟩
  case round =>
   obtain⟨j,hj,rfl,rfl⟩:=hrel;rw[H1.out]
   by_cases hlt2:j<r
   ·obtain⟨y,hy⟩:∃ y,y=s (b / 64) / 2 ^ j:=⟨_,rfl⟩;have hn:=half_pow (s (b / 64)) j;rw[H1.out]at hn hy;rw[← hy]at hn ⊢;have hyb:y≤18446744073709551615:=by have:=Nat.div_le_self (s (b / 64)) (2 ^ j);rw[H1.out]at this;rw[hy];omega
    have HN:=Lib.hid hn;clear hn;have HY:=Lib.hid hy;clear hy
    go_wp2
    go_round
    case rel=>exact⟨j+1,by omega,by go_num,by rw[HN.out];first|rfl|(congr 1)⟩
    case measure=>simp[intOf];omega
   ·obtain rfl:j=r:=by omega
    have ht:=bit_nat (s (b / 64)) j;rw[H1.out]at ht;have HT:=Lib.hid ht;clear ht;have hyb:=Nat.div_le_self (s (b / 64)) (2 ^ j);rw[H1.out]at hyb
    go_wp2
    go_ret;refine⟨?_,(Below.refl _ _).alloc (Nat.le_refl _) _⟩;unfold hasB;rw[H1.out,HR.out];exact congrArg (fun x=>Ending.returned (Value.bool x)) (half_bit _ _)
theorem add_or {x r:Nat} (hx:x<2 ^ 64) (hr:r<64) (h:x.testBit r=false):x+2 ^ r=x ||| 2 ^ r:=by
 have hr2:2 ^ r<2 ^ 64:=Nat.pow_lt_pow_right (by omega) hr
 have e:=BitVec.add_eq_or_of_and_eq_zero (BitVec.ofNat 64 x) (BitVec.ofNat 64 (2 ^ r)) (by
  apply BitVec.eq_of_getLsbD_eq;intro i hi;simp only[BitVec.getLsbD_and,BitVec.getLsbD_ofNat,BitVec.getLsbD_zero,Nat.testBit_two_pow]
  by_cases e:r=i
  ·subst e;simp[h]
  ·simp[e])
 have e2:=congrArg BitVec.toNat e;rw[BitVec.toNat_add,BitVec.toNat_or,BitVec.toNat_ofNat,BitVec.toNat_ofNat,Nat.mod_eq_of_lt hx,Nat.mod_eq_of_lt hr2]at e2;have hor:x ||| 2 ^ r<2 ^ 64:=Nat.or_lt_two_pow hx hr2
 have hle:x+2 ^ r<2 ^ 64+2 ^ 64:=by omega
 by_cases hc:x+2 ^ r<2 ^ 64
 ·rwa [Nat.mod_eq_of_lt hc]at e2
 ·exfalso
  have h1:(x+2 ^ r) % 2 ^ 64=x+2 ^ r - 2 ^ 64:=by omega
  rw[h1]at e2;have h2:x≤x ||| 2 ^ r:=Nat.left_le_or
  omega
theorem with_has {s:Nat→Nat} (hs:SetOk s) {b:Nat} (h:hasB s b=true):setV s=setV (addS s b) :=
 setV_ext hs (addS_ok hs b) fun c _=>by
  rw[has_add]
  by_cases e:c=b
  ·subst e;simp[h]
  ·simp[e]
theorem ref_with (s:Nat→Nat) (hs:SetOk s) (b:Nat) (hb:b<256) (w:World) :
  Calls Tryz.prog 151 #[setV s,.int .u8 b] w fun e w'=>e=.returned (setV (addS s b))∧Below w.heap.size w w':=by
 obtain⟨r,hr,hr1,hr2,h⟩:=bdiv_cases hb;obtain⟨q,hq4,hq,hqi⟩:∃ q:Nat,q<4∧b / 64=q∧(b:Int) / 64=q:=⟨b / 64,by omega,rfl,by omega⟩
 clear h;have h2r:∀ j,j≤r→2 ^ j≤9223372036854775808:=fun j hj=>by
  have:2 ^ j≤2 ^ 63:=Nat.pow_le_pow_right (by omega) (by omega)
  omega
 rw[show setV s=.agg #[.int .u64 (s 0),.int .u64 (s 1),.int .u64 (s 2),.int .u64 (s 3)] from rfl]
 have b1:SBox (w.alloc (.cells (setC s) 40)) w.heap.size 40 s:=SBox.new w _ _;have b2:SBox ((w.alloc (.cells (setC s) 40)).alloc (.cells (setC emptyS) 40)) w.heap.size 40 s:=b1.alloc _;have e2:SBox ((w.alloc (.cells (setC s) 40)).alloc (.cells (setC emptyS) 40)) (w.heap.size+1) 40 emptyS:=by have:=SBox.new (w.alloc (.cells (setC s) 40)) 40 emptyS;rwa [World.size_alloc]at this
 have bel:Below w.heap.size w ((w.alloc (.cells (setC s) 40)).alloc (.cells (setC emptyS) 40)):=((Below.refl _ w).alloc (Nat.le_refl _) _).alloc (by simp) _
 have HS:=Lib.hid hs;clear hs;have HQ:=Lib.hid hq;clear hq;have HR:=Lib.hid hr1;clear hr1;have H2R:=Lib.hid h2r;clear h2r;clear b1
 go_enter Tryz.func151,Tryz.ntmps151
 go_wp2_with fail
 refine(ref_Has s HS.out b hb _).mono ?_
 rintro e w1 ⟨rfl,bel1⟩;have sz1:=bel1.size;simp at sz1;have b3:=b2.below bel1 b2.lt;have e3:=e2.below bel1 e2.lt;have bel2:Below w.heap.size w w1:=bel.trans (bel1.mono (by simp;omega))
 clear b2 e2 bel bel1;have f0:=e3.frozen 0;have f1:=e3.frozen 1;have f2:=e3.frozen 2;have f3:=e3.frozen 3;have r0:=e3.cell (k:=0) (by omega);have r1:=e3.cell (k:=1) (by omega);have r2:=e3.cell (k:=2) (by omega);have r3:=e3.cell (k:=3) (by omega)
 have E3:=Lib.hid e3;clear e3;have BEL2:=Lib.hid bel2;clear bel2
 cases hh:hasB s b with
 | true =>
  have HH:=Lib.hid hh;clear hh;have c0:=b3.cell (k:=0) (by omega);have c1:=b3.cell (k:=1) (by omega);have c2:=b3.cell (k:=2) (by omega);have c3:=b3.cell (k:=3) (by omega)
  clear b3
  go_wp2
  have b4:=E3.out.set4 s;have g0:=b4.cell (k:=0) (by omega);have g1:=b4.cell (k:=1) (by omega);have g2:=b4.cell (k:=2) (by omega);have g3:=b4.cell (k:=3) (by omega)
  exact bodyPost_ret (v:=setV s) (by unfold setV;simp[results,Tryz.results151,go_sem,g0,g1,g2,g3]) rfl ⟨by rw[with_has HS.out HH.out],below_set4 BEL2.out (by omega) _ _ _ _⟩
 | false =>
  have HH:=Lib.hid hh;clear hh;have B3:=Lib.hid b3;have k1:=b3.cell hq4;have k2:=b3.frozen q;clear b3
  go_wp2_with fail
  go_loop [5,6] (fun n i=>∃ j:Nat,j≤r∧i=.int .u8 j∧n=.int .u64 ((2 ^ j:Nat):Int)) (fun _ i=>r - (intOf i).toNat)
  case atStart=>exact⟨0,by omega,rfl,rfl⟩
  case round =>
   obtain⟨j,hj,rfl,rfl⟩:=hrel
   by_cases hlt:j<r
   ·have hp:=H2R.out (j+1) (by omega)
    rw[Nat.pow_succ]at hp;have hs2:2 ^ (j+1)=2 ^ j * 2:=Nat.pow_succ ..;have HS2:=Lib.hid hs2;clear hs2;obtain⟨y,hy⟩:∃ y,y=2 ^ j:=⟨_,rfl⟩;rw[← hy]at hp HS2 ⊢;clear hy;have hw:IntKind.u64.wrap (2 * (y:Int))=2 * (y:Int):=by rw[IntKind.wrap_u64];omega
    go_wp2
    go_round
    case rel=>exact⟨j+1,by omega,by go_num,by rw[HS2.out];go_num⟩
    case measure=>simp[intOf];omega
   ·obtain rfl:j=r:=by omega
    have hadd:=add_or (HS.out q hq4) hr (by have:=HH.out;unfold hasB at this;rwa [HQ.out,HR.out]at this)
    have hp:=H2R.out j (Nat.le_refl _);have hor:s q ||| 2 ^ j<2 ^ 64:=Nat.or_lt_two_pow (HS.out q hq4) (by omega)
    rw[← hadd]at hor;have HADD:=Lib.hid hadd;clear hadd;obtain⟨y,hy⟩:∃ y,y=2 ^ j:=⟨_,rfl⟩;rw[← hy]at hp hor HADD ⊢;have HY:=Lib.hid hy;clear hy;have hw:IntKind.u64.wrap (((s q:Nat):Int)+(y:Int))=((s q+y:Nat):Int):=by rw[IntKind.wrap_u64];omega
    have b5:SBox (w1.setCell ⟨w.heap.size,q,none⟩ (.int .u64 (((s q:Nat):Int)+(y:Int)))) w.heap.size 40 (addS s b):=by
     have h1:=B3.out.set hq4 (s q+y);rw[HADD.out,HY.out,addS_at HQ.out HR.out,← HY.out,← HADD.out]at h1
     simpa using h1
    have e5:SBox (w1.setCell ⟨w.heap.size,q,none⟩ (.int .u64 (((s q:Nat):Int)+(y:Int)))) (w.heap.size+1) 40 emptyS:=E3.out.other (by omega) _ _
    have bel5:Below w.heap.size w (w1.setCell ⟨w.heap.size,q,none⟩ (.int .u64 (((s q:Nat):Int)+(y:Int)))):=BEL2.out.setCell (p:=⟨w.heap.size,q,none⟩) (Nat.le_refl _) _;have B5:=Lib.hid bel5;clear bel5;have c0:=b5.cell (k:=0) (by omega);have c1:=b5.cell (k:=1) (by omega);have c2:=b5.cell (k:=2) (by omega);have c3:=b5.cell (k:=3) (by omega)
    clear f0 f1 f2 f3 r0 r1 r2 r3 B3 E3;have f0:=e5.frozen 0;have f1:=e5.frozen 1;have f2:=e5.frozen 2;have f3:=e5.frozen 3;have r0:=e5.cell (k:=0) (by omega);have r1:=e5.cell (k:=1) (by omega);have r2:=e5.cell (k:=2) (by omega);have r3:=e5.cell (k:=3) (by omega)
    clear b5;have E5:=Lib.hid e5;clear e5
    go_wp2
    have b4:=E5.out.set4 (addS s b);have g0:=b4.cell (k:=0) (by omega);have g1:=b4.cell (k:=1) (by omega);have g2:=b4.cell (k:=2) (by omega);have g3:=b4.cell (k:=3) (by omega)
    exact bodyPost_ret (v:=setV (addS s b)) (by unfold setV;simp[results,Tryz.results151,go_sem,g0,g1,g2,g3]) rfl ⟨rfl,below_set4 B5.out (by omega) _ _ _ _⟩
theorem ref_Of (v:Value) (xs:List Int) (hx:∀ x ∈ xs,0≤x∧x≤255) (w:World) (h:Rd w w.heap.size v (xs.map (.int .u8))) :
  Calls Tryz.prog 135 #[v] w fun e w'=>e=.returned (setV (ofS xs))∧Below w.heap.size w w':=by
 have b1:SBox (w.alloc (.cells (setC emptyS) 40)) w.heap.size 40 emptyS:=SBox.new w _ _;have b2:SBox ((w.alloc (.cells (setC emptyS) 40)).alloc (.cells (setC emptyS) 40)) w.heap.size 40 emptyS:=b1.alloc _;have e2:SBox ((w.alloc (.cells (setC emptyS) 40)).alloc (.cells (setC emptyS) 40)) (w.heap.size+1) 40 emptyS:=by have:=SBox.new (w.alloc (.cells (setC emptyS) 40)) 40 emptyS;rwa [World.size_alloc]at this
 have bel:Below w.heap.size w ((w.alloc (.cells (setC emptyS) 40)).alloc (.cells (setC emptyS) 40)):=((Below.refl _ w).alloc (Nat.le_refl _) _).alloc (by simp) _
 clear b1;have hl:xs.length≤9223372036854775807:=by simpa using h.len
 obtain⟨p,cap,rfl⟩:∃ p cap,v=.slice p xs.length cap:=by rcases h with ⟨⟨q,h⟩,h'⟩|⟨b,off,cap,h,_⟩;(obtain rfl:xs=[]:=by simpa using h');exact⟨_,_,h⟩;exact⟨some ⟨b,off,none⟩,cap,by simpa using h⟩
 have H:=Lib.hid h;clear h;have HX:=Lib.hid hx;clear hx
 go_enter Tryz.func135,Tryz.ntmps135
 go_wp2_with fail
 go_loopw [4] (fun i wr=>∃ k:Nat,k≤xs.length∧i=.int .i64 k∧Hid (SBox wr (w.heap.size+1) 40 (ofS (xs.take k))∧SBox wr w.heap.size 40 emptyS∧Below w.heap.size w wr)) (fun i _=>xs.length - (intOf i).toNat)
 case atStart=>exact⟨0,by omega,rfl,e2,b2,bel⟩
 case round =>
  clear e2 b2 bel;obtain⟨k,hk,rfl,G⟩:=hrel
  by_cases hlt:k<xs.length
  ·obtain⟨b0,off,rfl,hb0,hcell⟩:∃ b0 off,p=some ⟨b0,off,none⟩∧b0<w.heap.size∧w.cell? ⟨b0,off+k,none⟩=some (.int .u8 xs[k]):=by
    rcases H.out with ⟨⟨q,h⟩,h'⟩|⟨b,off,cap,h,h1,_,_,h4⟩
    ·simp at h';subst h';simp at hlt
    ·injection h with h2 _ _;exact⟨b,off,h2,h1,by have:=h4 k (by simpa using hlt);simpa using this⟩
   have hxk:=HX.out xs[k] (List.getElem_mem hlt);have hnext:ofS (xs.take (k+1))=addS (ofS (xs.take k)) xs[k].toNat:=by rw[List.take_succ_eq_append_getElem hlt,ofS_snoc]
   have hS:SetOk (ofS (xs.take k)):=ofS_ok _;have HN:=Lib.hid hnext;clear hnext;have HS:=Lib.hid hS;clear hS
   generalize ofS (xs.take k)=S at G HN HS
   generalize xs[k]=x at hcell hxk HN
   obtain⟨hx0,hx1⟩:=hxk;obtain⟨x,rfl⟩:∃ n:Nat,x=n:=⟨x.toNat,by omega⟩
   have HC:=Lib.hid hcell;clear hcell
   go_upto_region 5 with fail
   refine wp_region_spec 6 [fun v _=>v=setV S,fun v _=>v=.slice (some ⟨b0,off,none⟩) xs.length cap,fun v _=>v=.int .i64 (k:Int),fun v _=>v=.pointer (some ⟨b0,off+k,none⟩),fun v _=>v=.int .u8 (x:Int),fun v _=>v=setV (addS S x)] (fun _=>false) (by kernel_rfl) (by kernel_rfl) (by kernel_rfl) (by repeat (first|exact trivial|refine⟨stable_eq _,?_⟩)) (fun _ _ h=>by cases h) ?ob ?en
   case ob =>
    refine⟨?_,?_,?_,?_,?_,?_,trivial⟩<;>intro A W h
    ·exact rs_loadset (s:=S) rfl rfl (h.frame 3 rfl) (G.out.1.below h.below G.out.1.lt) (by decide)
    ·exact rs_move rfl rfl (h.frame 0 rfl)
    ·exact rs_move rfl rfl (h.frame 4 rfl)
    ·exact rs_idx (sz:=1) Tryz.underlying23 (fun w=>by kernel_rfl) rfl rfl (h.dep 1 12 rfl rfl) (h.dep 2 13 rfl rfl) (by omega) (by omega)
    ·(have e14:A.eval (.tmp 14)=.pointer (some ⟨b0,off+k,none⟩):=h.dep 3 14 rfl rfl;refine rs_pure rfl ?_;simp only[execOp,e14];(have q:=((G.out.2.2.trans (h.below.mono G.out.2.2.size)).cell (p:=⟨b0,off+k,none⟩) hb0).trans HC.out;simp[go_sem,q]))
    ·exact rs_calln rfl rfl (enters_of Tryz.func151 (by kernel_rfl) rfl) (args2 ⟨(h.dep 0 11 rfl rfl),(h.dep 4 15 rfl rfl)⟩) (ref_with S HS.out x (by omega) W)
   case en =>
    intro vals W hbw hv _;simp only[fa,Nat.reduceAdd];rw[e_ hv 0,e_ hv 1,e_ hv 2,e_ hv 3,e_ hv 4,e_ hv 5];clear hv
    try simp only[pl]
    have s1:=G.out.1.below hbw G.out.1.lt;have s2:=G.out.2.1.below hbw G.out.2.1.lt;have s3:=G.out.2.2.trans (hbw.mono G.out.2.2.size);have f0:=s1.frozen 0;have f1:=s1.frozen 1;have f2:=s1.frozen 2;have f3:=s1.frozen 3;have r0:=s1.cell (k:=0) (by omega);have r1:=s1.cell (k:=1) (by omega);have r2:=s1.cell (k:=2) (by omega);have r3:=s1.cell (k:=3) (by omega)
    have S1:=Lib.hid s1;clear s1;have S2:=Lib.hid s2;clear s2;have S3:=Lib.hid s3;clear s3;have sz:=G.out.1.lt;clear hbw G;rw[show setV (addS S x)=.agg #[.int .u64 (addS S x 0),.int .u64 (addS S x 1),.int .u64 (addS S x 2),.int .u64 (addS S x 3)] from rfl]
    go_wp2_with fail
    go_roundw
    case rel=>exact⟨k+1,by omega,by go_num,by rw[HN.out];exact S1.out.set4 _,(((S2.out.other (by omega) _ _).other (by omega) _ _).other (by omega) _ _).other (by omega) _ _,below_set4 S3.out (by omega) _ _ _ _⟩
    case measure=>simp[intOf];omega
  ·obtain rfl:k=xs.length:=by omega
   have ⟨s1,s2,s3⟩:=G.out;rw[List.take_length]at s1;clear G;have f0:=s2.frozen 0;have f1:=s2.frozen 1;have f2:=s2.frozen 2;have f3:=s2.frozen 3;have r0:=s2.cell (k:=0) (by omega);have r1:=s2.cell (k:=1) (by omega);have r2:=s2.cell (k:=2) (by omega);have r3:=s2.cell (k:=3) (by omega)
   have c0:=s1.cell (k:=0) (by omega);have c1:=s1.cell (k:=1) (by omega);have c2:=s1.cell (k:=2) (by omega);have c3:=s1.cell (k:=3) (by omega)
   clear s1;have S2:=Lib.hid s2;clear s2;have S3:=Lib.hid s3;clear s3
   go_wp2
   have b4:=S2.out.set4 (ofS xs);have g0:=b4.cell (k:=0) (by omega);have g1:=b4.cell (k:=1) (by omega);have g2:=b4.cell (k:=2) (by omega);have g3:=b4.cell (k:=3) (by omega)
   exact bodyPost_ret (v:=setV (ofS xs)) (by unfold setV;simp[results,Tryz.results135,go_sem,g0,g1,g2,g3]) rfl ⟨rfl,below_set4 S3.out (by omega) _ _ _ _⟩
def UTo (L:List (Nat→Nat)) (b i:Nat) (S:Nat→Nat):Prop:=SetOk S∧∀ c,c<256→hasB S c=((decide (c<b)&&L.any (fun t=>hasB t c)) || (decide (c=b)&&(L.take i).any (fun t=>hasB t c)))
theorem UTo.start (L:List (Nat→Nat)):UTo L 0 0 emptyS:=⟨emptyS_ok,fun c _=>by simp[has_empty]⟩
theorem UTo.next {L:List (Nat→Nat)} {b:Nat} {S:Nat→Nat} (h:UTo L b L.length S):UTo L (b+1) 0 S :=
 ⟨h.1,fun c hc=>by
  rw[h.2 c hc,List.take_length]
  by_cases e:c=b
  ·subst e;simp
  ·by_cases e2:c<b
   ·simp[e,e2,Nat.lt_succ_of_lt e2]
   ·simp[e,e2,show ¬ c<b+1 from by omega]⟩
def MTo (L:List (Nat→Nat)) (b:Nat) (S:Nat→Nat):Prop:=SetOk S∧∀ c,c<256→hasB S c=(decide (c<b)&&L.all (fun t=>hasB t c))
theorem MTo.start (L:List (Nat→Nat)):MTo L 0 emptyS:=⟨emptyS_ok,fun c _=>by simp[has_empty]⟩
theorem ref_Range (lo hi:Nat) (hlo:lo≤255) (hhi:hi≤255) (w:World) :
  Calls Tryz.prog 134 #[.int .u8 lo,.int .u8 hi] w fun e w'=>e=.returned (setV (rangeS lo (hi+1 - lo)))∧Below w.heap.size w w':=by
 have b1:SBox (w.alloc (.cells (setC emptyS) 40)) w.heap.size 40 emptyS:=SBox.new w _ _;have b2:SBox ((w.alloc (.cells (setC emptyS) 40)).alloc (.cells (setC emptyS) 40)) w.heap.size 40 emptyS:=b1.alloc _;have e2:SBox ((w.alloc (.cells (setC emptyS) 40)).alloc (.cells (setC emptyS) 40)) (w.heap.size+1) 40 emptyS:=by have:=SBox.new (w.alloc (.cells (setC emptyS) 40)) 40 emptyS;rwa [World.size_alloc]at this
 have bel:Below w.heap.size w ((w.alloc (.cells (setC emptyS) 40)).alloc (.cells (setC emptyS) 40)):=((Below.refl _ w).alloc (Nat.le_refl _) _).alloc (by simp) _
 clear b1
 go_enter Tryz.func134,Tryz.ntmps134
 go_wp2_with fail
 go_loopw [6] (fun i wr=>∃ m:Nat,m≤hi+1 - lo∧i=.int .i64 ((lo+m:Nat):Int)∧Hid (SBox wr (w.heap.size+1) 40 (rangeS lo m)∧SBox wr w.heap.size 40 emptyS∧Below w.heap.size w wr∧True)) (fun i _=>256 - (intOf i).toNat)
 case atStart=>exact⟨0,by omega,rfl,e2,b2,bel,trivial⟩
 case round =>
  clear e2 b2 bel;obtain⟨m,hm,rfl,H⟩:=hrel;obtain⟨n,hn⟩:∃ n,lo+m=n:=⟨_,rfl⟩;rw[hn];have HN:=Lib.hid hn;clear hn;have hn2:n≤hi+1∨n=lo:=by have:=HN.out;omega
  by_cases hlt:n≤hi
  ·have hnext:=rangeS_succ lo m;rw[HN.out]at hnext;have hS:SetOk (rangeS lo m):=ofS_ok _;have Hnext:=Lib.hid hnext;clear hnext;have HS:=Lib.hid hS;clear hS
   generalize rangeS lo m=S at H Hnext HS
   go_upto_region 5 with fail
   refine wp_region_seq 4 [fun v _=>v=setV S,fun v _=>v=.int .i64 (n:Int),fun v _=>v=.int .u8 (n:Int),fun v _=>v=setV (addS S n)] (fun _=>false) (by kernel_rfl) (by kernel_rfl) (by repeat (first|exact trivial|refine⟨stable_eq _,?_⟩)) (fun _ _ h=>by cases h) ?ob ?en
   case ob =>
    refine⟨?_,?_,?_,?_,trivial⟩<;>intro A W h
    ·exact rs_loadset (s:=S) rfl rfl (h.frame 5 rfl) (H.out.1.below h.below H.out.1.lt) (by decide)
    ·exact rs_move rfl rfl (h.frame 6 rfl)
    ·(have e16:A.eval (.tmp 16)=.int .i64 (n:Int):=h.dep 1 16 rfl rfl;refine rs_pure rfl ?_;simp only[execOp,e16];(simp[go_sem]<;>first|done|omega|(rw[IntKind.wrap_i64];omega)|(rw[IntKind.wrap_u8];omega)|(rw[IntKind.wrap_u64];omega)))
    ·exact rs_calln rfl rfl (enters_of Tryz.func151 (by kernel_rfl) rfl) (args2 ⟨(h.dep 0 15 rfl rfl),(h.dep 2 17 rfl rfl)⟩) (ref_with S HS.out n (by omega) W)
   case en =>
    intro vals W hbw hv _;simp only[fa,Nat.reduceAdd];rw[e_ hv 0,e_ hv 1,e_ hv 2,e_ hv 3];clear hv
    try simp only[pl]
    have s1:=H.out.1.below hbw H.out.1.lt;have s2:=H.out.2.1.below hbw H.out.2.1.lt;have s3:=H.out.2.2.1.trans (hbw.mono H.out.2.2.1.size);have f0:=s1.frozen 0;have f1:=s1.frozen 1;have f2:=s1.frozen 2;have f3:=s1.frozen 3;have r0:=s1.cell (k:=0) (by omega);have r1:=s1.cell (k:=1) (by omega);have r2:=s1.cell (k:=2) (by omega);have r3:=s1.cell (k:=3) (by omega)
    have S1:=Lib.hid s1;clear s1;have S2:=Lib.hid s2;clear s2;have S3:=Lib.hid s3;clear s3;clear hbw;rw[show setV (addS S n)=.agg #[.int .u64 (addS S n 0),.int .u64 (addS S n 1),.int .u64 (addS S n 2),.int .u64 (addS S n 3)] from rfl]
    go_wp2_with fail
    have T1:=Lib.hid (S1.out.set4 (addS S n));have T2:=Lib.hid ((((S2.out.other (B':=w.heap.size+1) (by omega) 0 (.int .u64 (addS S n 0))).other (B':=w.heap.size+1) (by omega) 1 (.int .u64 (addS S n 1))).other (B':=w.heap.size+1) (by omega) 2 (.int .u64 (addS S n 2))).other (B':=w.heap.size+1) (by omega) 3 (.int .u64 (addS S n 3)))
    have T3:=Lib.hid (below_set4 S3.out (B:=w.heap.size+1) (by omega) (.int .u64 (addS S n 0)) (.int .u64 (addS S n 1)) (.int .u64 (addS S n 2)) (.int .u64 (addS S n 3)))
    go_roundw
    case rel=>exact⟨m+1,by have:=HN.out;omega,by have:=HN.out;go_num,by rw[Hnext.out];exact T1.out,T2.out,T3.out,trivial⟩
    case measure=>simp[intOf];omega
  ·have hm2:m=hi+1 - lo:=by have:=HN.out;omega
   subst hm2;have ⟨s1,s2,s3,_⟩:=H.out;clear H;have f0:=s2.frozen 0;have f1:=s2.frozen 1;have f2:=s2.frozen 2;have f3:=s2.frozen 3;have r0:=s2.cell (k:=0) (by omega);have r1:=s2.cell (k:=1) (by omega);have r2:=s2.cell (k:=2) (by omega);have r3:=s2.cell (k:=3) (by omega)
   have c0:=s1.cell (k:=0) (by omega);have c1:=s1.cell (k:=1) (by omega);have c2:=s1.cell (k:=2) (by omega);have c3:=s1.cell (k:=3) (by omega)
   clear s1;have S2:=Lib.hid s2;clear s2;have S3:=Lib.hid s3;clear s3
   go_wp2
   have b4:=S2.out.set4 (rangeS lo (hi+1 - lo));have g0:=b4.cell (k:=0) (by omega);have g1:=b4.cell (k:=1) (by omega);have g2:=b4.cell (k:=2) (by omega);have g3:=b4.cell (k:=3) (by omega)
   exact bodyPost_ret (v:=setV (rangeS lo (hi+1 - lo))) (by unfold setV;simp[results,Tryz.results134,go_sem,g0,g1,g2,g3]) rfl ⟨rfl,below_set4 S3.out (by omega) _ _ _ _⟩
def optI:Option Nat→Int
 | some n=>n
 | none => -1
theorem ref_hex (c:Nat) (hc:c<256) (w0:World):Calls Tryz.prog 157 #[.int .u8 c] w0 fun e w'=>e=.returned (.int .i64 (optI (hexP c)))∧Below w0.heap.size w0 w':=by
 go_enter Tryz.func157,Tryz.ntmps157
 go_wp2
 all_goals
  go_ret;refine⟨reti ?_,Below.refl _ _⟩;unfold hexP
  (repeat' split)<;>simp only[optI]<;>omega
theorem ref_span (lo hi:Nat) (hlo:lo≤255) (hhi:hi≤255) (w0:World):Calls Tryz.prog 160 #[.int .u8 lo,.int .u8 hi] w0 fun e w'=>e=.returned (setV (rangeS lo (hi+1 - lo)))∧Below w0.heap.size w0 w':=by
 have H:=Hold.start w0
 go_enter Tryz.func160,Tryz.ntmps160
 go_wp2_with (first|(first|((with_reducible refine gT ?_);(refine aS H ?_;clear H;intro w H;try simp only[nr]at H))|((with_reducible refine gA ?_);(refine bA H ?_;clear H;intro b w H;try simp only[nr]at H)))|(go_at_call 134;(with_reducible refine ch (ref_Range lo hi hlo hhi _) H ?_);clear H;intro w H))
 (refine ret_cS Tryz.results160 rfl H atd_ (by with_reducible exact row_Set) rfl ?_)
 exact⟨rfl,H.below⟩
theorem ref_one (c:Nat) (hc:c<256) (w0:World):Calls Tryz.prog 130 #[.int .u8 c] w0 fun e w'=>e=.returned (setV (ofS [(c:Int)]))∧Below w0.heap.size w0 w':=by
 have H:=Hold.start w0
 go_enter Tryz.func130,Tryz.ntmps130
 go_wp2_with (first|(first|((with_reducible refine gT ?_);(refine aS H ?_;clear H;intro w H;try simp only[nr]at H))|((with_reducible refine gA ?_);(refine bA H ?_;clear H;intro b w H;try simp only[nr]at H)))|((with_reducible show @wpList _ _ _ ({dst:=_,op:=Op.buildSlice _ _ _,type:=_,pos:=_,after:=_,guard:=_}::_) _ _);refine own_build wtd_ _ _ _ rfl H (#[.int .u8 c]) 5 (by intro W;simp only[List.map_toArray,List.map_cons,List.map_nil];(try simp only[pe]);(try unfold setV);simp[go_sem]<;>rfl) ?_;clear H;intro b w H;try simp only[nr]at H)|(go_at_call 135;(with_reducible refine ch (ref_Of _ [(c:Int)] (by simp;omega) _ (H.rdn (cs:=[.int .u8 c]) atd_ (by simp) (by simp[maxLen]))) H ?_);clear H;intro w H))
 (refine ret_cS Tryz.results130 rfl H atd_ (by with_reducible exact row_Set) rfl ?_)
 exact⟨rfl,H.below⟩
theorem ref_at (L t:Str) (i:Nat) (hL:L.length≤2000) (ht:t≠[]) (htl:t.length≤2000) (hi:i≤4000) (w0:World) :
  Calls Tryz.prog 126 #[.string ⟨L.toArray⟩,.int .i64 i,.string ⟨t.toArray⟩] w0 fun e w'=>e=.returned (.bool (atP L i t))∧Below w0.heap.size w0 w':=by
 have H:=Hold.start w0;have HT:=Lib.hid ht;clear ht
 by_cases h:i+t.length≤L.length
 ·have hd:decide ((i:Int)+(t.length:Int)≤(L.length:Int))=true:=by simp;omega
  have hw:IntKind.i64.wrap ((i:Int)+(t.length:Int))=(i:Int)+(t.length:Int):=by rw[IntKind.wrap_i64];omega
  go_enter Tryz.func126,Tryz.ntmps126
  go_wp2_with (first|(first|((with_reducible refine gC ?_);refine aC ?_)|((with_reducible refine gE ?_);refine aE ?_)))
  go_ret;exact⟨retb (at_in h),Below.refl _ _⟩
 ·have hd:decide ((i:Int)+(t.length:Int)≤(L.length:Int))=false:=by simp;omega
  have hw:IntKind.i64.wrap ((i:Int)+(t.length:Int))=(i:Int)+(t.length:Int):=by rw[IntKind.wrap_i64];omega
  go_enter Tryz.func126,Tryz.ntmps126
  go_wp2_with (first|fail)
  go_ret;exact⟨retb (at_out (by omega) HT.out).symm,Below.refl _ _⟩
theorem NTo_start (s:Nat→Nat):SetOk emptyS∧∀ c,c<256→hasB emptyS c=(decide (c<0)&&!hasB s c):=⟨emptyS_ok,fun c _=>by simp[has_empty]⟩
theorem ref_Not (s:Nat→Nat) (hs:SetOk s) (w0:World):Calls Tryz.prog 132 #[setV s] w0 fun e w'=>e=.returned (setV (notS s))∧Below w0.heap.size w0 w':=by
 have H:=Hold.start w0
 go_enter Tryz.func132,Tryz.ntmps132
 go_wp2_with (first|((first|((with_reducible refine kgA 1 ?_);refine kA 1 H ?_)|((with_reducible refine kgX 1 ?_);(first|refine kS 1 H ?_|refine kB 1 H ?_)));clear H;intro b1 w H;try simp only[nr]at H)|((first|((with_reducible refine kgA 2 ?_);refine kA 2 H ?_)|((with_reducible refine kgX 2 ?_);(first|refine kS 2 H ?_|refine kB 2 H ?_)));clear H;intro b2 w H;try simp only[nr]at H)|((first|((with_reducible refine kgA 3 ?_);refine kA 3 H ?_)|((with_reducible refine kgX 3 ?_);(first|refine kS 3 H ?_|refine kB 3 H ?_)));clear H;intro b3 w H;try simp only[nr]at H)|fail)
 go_loopw [4] (fun i wr=>∃ (k:Nat) (S:Nat→Nat),k≤256∧i=.int .i64 k∧Hid (SetOk S∧∀ c,c<256→hasB S c=(decide (c<k)&&!hasB s c))∧Hold w0 wr [.blk b1 (setC s) 40,.blk b2 (setC emptyS) 40,.blk b3 (setC S) 40]) (fun i _=>256 - (intOf i).toNat)
 case atStart=>exact⟨0,emptyS,by omega,rfl,Lib.hid (NTo_start s),H⟩
 case round =>
  clear H;obtain⟨k,S,hk,rfl,G,H⟩:=hrel
  by_cases hlt:k<256
  ·cases hb:hasB s k with
   | true =>
    have hc:=fun w=>ref_Has s hs k hlt w
    rw[hb]at hc;have HB:=Lib.hid hb;clear hb
    go_wp2_with (first|((with_reducible refine gL ?_);refine aL H ?_)|(go_at_call 78;(with_reducible refine ch (hc _) H ?_);clear H;intro w H))
    go_roundw
    case rel=>exact⟨k+1,S,by omega,by go_num,Lib.hid ⟨G.out.1,fun c hc=>by
     rw[G.out.2 c hc]
     by_cases e:c=k
     ·subst e;simp[HB.out]
     ·simp[show c<k+1↔c<k from by omega]⟩,H⟩
    case measure=>simp[intOf];omega
   | false =>
    have hc:=fun w=>ref_Has s hs k hlt w
    rw[hb]at hc;have HB:=Lib.hid hb;clear hb
    go_wp2_with (first|(first|((with_reducible refine gT ?_);(refine aS H ?_;clear H;intro w H;try simp only[nr]at H))|((with_reducible refine gL ?_);refine aL H ?_))|(go_at_call 78;(with_reducible refine ch (hc _) H ?_);clear H;intro w H)|(go_at_call 151;(with_reducible refine ch (ref_with S G.out.1 k hlt _) H ?_);clear H;intro w H))
    go_roundw
    case rel=>exact⟨k+1,addS S k,by omega,by go_num,Lib.hid ⟨addS_ok G.out.1 k,fun c hc=>by
     rw[has_add,G.out.2 c hc]
     by_cases e:c=k
     ·subst e;simp[HB.out]
     ·simp[e,show c<k+1↔c<k from by omega]⟩,H⟩
    case measure=>simp[intOf];omega
  ·obtain rfl:k=256:=by omega
   go_wp2_with (first|(first|((with_reducible refine gT ?_);(refine aS H ?_;clear H;intro w H;try simp only[nr]at H))|((with_reducible refine gL ?_);refine aL H ?_)))
   (refine ret_cS Tryz.results132 rfl H atd_ (by with_reducible exact row_Set) rfl ?_)
   exact⟨congrArg Ending.returned (setV_ext G.out.1 (notS_ok s) fun c hc=>by rw[G.out.2 c hc,has_not hs hc];simp[hc]),H.below⟩
theorem ref_Fold (s:Nat→Nat) (hs:SetOk s) (w0:World):Calls Tryz.prog 131 #[setV s] w0 fun e w'=>e=.returned (setV (caseS s))∧Below w0.heap.size w0 w':=by
 have H:=Hold.start w0
 go_enter Tryz.func131,Tryz.ntmps131
 go_wp2_with (first|((first|((with_reducible refine kgA 1 ?_);refine kA 1 H ?_)|((with_reducible refine kgX 1 ?_);(first|refine kS 1 H ?_|refine kB 1 H ?_)));clear H;intro b1 w H;try simp only[nr]at H)|((first|((with_reducible refine kgA 2 ?_);refine kA 2 H ?_)|((with_reducible refine kgX 2 ?_);(first|refine kS 2 H ?_|refine kB 2 H ?_)));clear H;intro b2 w H;try simp only[nr]at H)|((first|((with_reducible refine kgA 3 ?_);refine kA 3 H ?_)|((with_reducible refine kgX 3 ?_);(first|refine kS 3 H ?_|refine kB 3 H ?_)));clear H;intro b3 w H;try simp only[nr]at H)|(first|((with_reducible refine gT ?_);(refine aS H ?_;clear H;intro w H;try simp only[nr]at H))|((with_reducible refine gL ?_);refine aL H ?_)))
 go_loopw [4] (fun i wr=>∃ (k:Nat),k≤26∧i=.int .u8 (97+(k:Int))∧Hold w0 wr [.blk b1 (setC s) 40,.blk b2 (setC emptyS) 40,.blk b3 (setC (caseTo s k)) 40]) (fun i _=>26+97 - (intOf i).toNat)
 case atStart=>exact⟨0,by omega,rfl,H⟩
 case round =>
  clear H;obtain⟨k,hk,rfl,H⟩:=hrel
  by_cases hlt:k<26
  ·have hd:decide (97+(k:Int)≤122)=true:=by simp;omega
   have hc:=fun w=>ref_Has s hs (97+k) (by omega) w
   have hc2:=fun w=>ref_Has s hs (65+k) (by omega) w
   have h32:IntKind.u8.wrap (97+(k:Int) - 32)=65+(k:Int):=by rw[IntKind.wrap_u8];omega
   have hw1:=fun w=>ref_with (caseTo s k) (caseTo_ok hs k) (97+k) (by omega) w
   have hw2:=fun w=>ref_with (addS (caseTo s k) (97+k)) (addS_ok (caseTo_ok hs k) _) (65+k) (by omega) w
   simp only[Int.natCast_add,Int.cast_ofNat_Int]at hc hc2 hw1 hw2;have ha1:IntKind.u8.wrap (97+(k:Int)+1)=97+((k+1:Nat):Int):=by rw[IntKind.wrap_u8];omega
   cases ha:hasB s (97+k) with
   | true =>
    have E:=Lib.hid (show caseTo s (k+1)=addS (addS (caseTo s k) (97+k)) (65+k) by simp[caseTo,ha])
    rw[ha]at hc;clear ha
    go_wp2_with (first|(first|((with_reducible refine gT ?_);(refine aS H ?_;clear H;intro w H;try simp only[nr]at H))|((with_reducible refine gL ?_);refine aL H ?_))|(go_at_call 78;(with_reducible refine ch (hc _) H ?_);clear H;intro w H)|(go_at_call 151;(with_reducible refine ch (hw1 _) H ?_);clear H;intro w H)|(go_at_call 151;(with_reducible refine ch (hw2 _) H ?_);clear H;intro w H))
    go_roundw
    case rel=>exact⟨k+1,by omega,rfl,by rw[E.out];exact H⟩
    case measure=>simp[intOf];omega
   | false =>
    cases hb:hasB s (65+k) with
    | true =>
     have E:=Lib.hid (show caseTo s (k+1)=addS (addS (caseTo s k) (97+k)) (65+k) by simp[caseTo,hb])
     rw[ha]at hc;rw[hb]at hc2;clear ha hb
     go_wp2_with (first|(first|((with_reducible refine gT ?_);(refine aS H ?_;clear H;intro w H;try simp only[nr]at H))|((with_reducible refine gL ?_);refine aL H ?_))|(go_at_call 78;(with_reducible refine ch (hc _) H ?_);clear H;intro w H)|(go_at_call 78;(with_reducible refine ch (hc2 _) H ?_);clear H;intro w H)|(go_at_call 151;(with_reducible refine ch (hw1 _) H ?_);clear H;intro w H)|(go_at_call 151;(with_reducible refine ch (hw2 _) H ?_);clear H;intro w H))
     go_roundw
     case rel=>exact⟨k+1,by omega,rfl,by rw[E.out];exact H⟩
     case measure=>simp[intOf];omega
    | false =>
     have E:=Lib.hid (show caseTo s (k+1)=caseTo s k by simp[caseTo,ha,hb])
     rw[ha]at hc;rw[hb]at hc2;clear ha hb
     go_wp2_with (first|((with_reducible refine gL ?_);refine aL H ?_)|(go_at_call 78;(with_reducible refine ch (hc _) H ?_);clear H;intro w H)|(go_at_call 78;(with_reducible refine ch (hc2 _) H ?_);clear H;intro w H))
     go_roundw
     case rel=>exact⟨k+1,by omega,rfl,by rw[E.out];exact H⟩
     case measure=>simp[intOf];omega
  ·obtain rfl:k=26:=by omega
   go_wp2_with (first|(first|((with_reducible refine gT ?_);(refine aS H ?_;clear H;intro w H;try simp only[nr]at H))|((with_reducible refine gL ?_);refine aL H ?_)))
   (refine ret_cS Tryz.results131 rfl H atd_ (by with_reducible exact row_Set) rfl ?_)
   exact⟨rfl,H.below⟩
theorem or3 (f n:Bool):(f=true)∨(f=false∧n=true)∨(f=false∧n=false):=by cases f<;>cases n<;>simp
theorem ref_turned (f:FlagsD) (d:WordD) (w0:World):Calls Tryz.prog 106 #[flagsV f,wordV d] w0 fun e w'=>e=.returned (flagsV (turnP f d))∧Below w0.heap.size w0 w':=by
 have H:=Hold.start w0
 rcases or3 f.1 d.on.1 with h1|⟨h1,k1⟩|⟨h1,k1⟩<;>rcases or3 f.2.1 d.on.2.1 with h2|⟨h2,k2⟩|⟨h2,k2⟩<;>rcases or3 f.2.2 d.on.2.2 with h3|⟨h3,k3⟩|⟨h3,k3⟩<;>(
  go_enter Tryz.func106,Tryz.ntmps106
  go_wp2_with (first|(first|((with_reducible refine gT ?_);(refine aT H ?_;clear H;intro w H;try simp only[nr]at H))|((with_reducible refine gL ?_);(first|refine aGb H ?_|refine aG H ?_))|((with_reducible refine gX ?_);(refine bB H ?_;clear H;intro b w H;try simp only[nr]at H))|((with_reducible refine gA ?_);(refine bA H ?_;clear H;intro b w H;try simp only[nr]at H))|((with_reducible refine gZ ?_);refine fb3 ?_)))
  (refine ret_c Tryz.results106 rfl H atd_ (by first|(with_reducible exact row_Node)|(with_reducible exact row_Set)|(with_reducible exact row_Flags)) (by rfl) rfl ?_)
  exact⟨congrArg (fun x=>Ending.returned (flagsV x)) (by simp[turnP, *]),H.below⟩)
theorem ref_opens (d:WordD) (w0:World):Calls Tryz.prog 105 #[wordV d] w0 fun e w'=>e=.returned (.bool (opensP d))∧Below w0.heap.size w0 w':=by
 have H:=Hold.start w0
 by_cases h6:d.kind=6
 ·have d6:((d.kind:Int) == 6)=true:=by rw[beq_iff_eq];omega
  have E:=Lib.hid (show opensP d=true by simp[opensP,h6]);clear h6
  go_enter Tryz.func105,Tryz.ntmps105
  go_wp2_with (first|(first|((with_reducible refine gL ?_);refine aG H ?_)|((with_reducible refine gX ?_);(refine bB H ?_;clear H;intro b w H;try simp only[nr]at H))))
  go_ret;exact⟨retb E.out.symm,H.below⟩
 ·have d6:((d.kind:Int) == 6)=false:=by rw[beq_eq_false_iff_ne];omega
  have E:=Lib.hid (show opensP d=((d.kind:Int) == 7) by
   simp only[opensP,show (d.kind == 6)=false from by simpa using h6,Bool.false_or]
   rw[Bool.eq_iff_iff,beq_iff_eq,beq_iff_eq];omega);clear h6
  go_enter Tryz.func105,Tryz.ntmps105
  go_wp2_with (first|(first|((with_reducible refine gL ?_);refine aG H ?_)|((with_reducible refine gX ?_);(refine bB H ?_;clear H;intro b w H;try simp only[nr]at H))))
  go_ret;exact⟨retb E.out.symm,H.below⟩
theorem ref_of (s:Nat→Nat) (w0:World):Calls Tryz.prog 133 #[setV s] w0 fun e w'=>e=.returned (nodeV (setT s).d nilS)∧Below w0.heap.size w0 w':=by
 have H:=Hold.start w0
 cases hq:eqS s emptyS with
 | true =>
  have E:=Lib.hid (show (setT s).d={kind:=2} by simp[setT,hq,leafT,Tree.d])
  go_enter Tryz.func133,Tryz.ntmps133
  go_wp2_with (first|(first|((with_reducible refine gT ?_);(refine aT H ?_;clear H;intro w H;try simp only[nr]at H))|((with_reducible refine gL ?_);refine aL H ?_)|((with_reducible refine gX ?_);(refine bS H ?_;clear H;intro b w H;try simp only[nr]at H))|((with_reducible refine gA ?_);(refine bA H ?_;clear H;intro b w H;try simp only[nr]at H))|((with_reducible refine gZ ?_);refine nb1 ?_)|((with_reducible refine gES ?_);refine qS ?_)|((with_reducible refine gZ ?_);refine aZ ?_)))
  (refine ret_c Tryz.results133 rfl H atd_ (by first|(with_reducible exact row_Node)|(with_reducible exact row_Set)|(with_reducible exact row_Flags)) (by rfl) rfl ?_)
  exact⟨by rw[E.out],H.below⟩
 | false =>
  have E:=Lib.hid (show (setT s).d={kind:=3,set:=s} by simp[setT,hq,Tree.d])
  go_enter Tryz.func133,Tryz.ntmps133
  go_wp2_with (first|(first|((with_reducible refine gT ?_);(refine aT H ?_;clear H;intro w H;try simp only[nr]at H))|((with_reducible refine gL ?_);refine aL H ?_)|((with_reducible refine gX ?_);(refine bS H ?_;clear H;intro b w H;try simp only[nr]at H))|((with_reducible refine gA ?_);(refine bA H ?_;clear H;intro b w H;try simp only[nr]at H))|((with_reducible refine gZ ?_);refine nbS ?_)|((with_reducible refine gES ?_);refine qS ?_)|((with_reducible refine gZ ?_);refine aZ ?_)))
  (refine ret_c Tryz.results133 rfl H atd_ (by first|(with_reducible exact row_Node)|(with_reducible exact row_Set)|(with_reducible exact row_Flags)) (by rfl) rfl ?_)
  exact⟨by rw[E.out],H.below⟩
theorem ref_spot10 (f:FlagsD) (p q:Int) (w0:World):Calls Tryz.prog 136 #[flagsV f,.int .i64 p,.int .i64 q] w0 fun e w'=>e=.returned (nodeV (spotT f p q).d nilS)∧Below w0.heap.size w0 w':=by
 have H:=Hold.start w0;obtain⟨f1,f2,f3⟩:=f
 cases f2 with
 | true =>
  go_enter Tryz.func136,Tryz.ntmps136
  go_wp2_with (first|(first|((with_reducible refine gT ?_);(refine aT H ?_;clear H;intro w H;try simp only[nr]at H))|((with_reducible refine gL ?_);refine aG H ?_)|((with_reducible refine gX ?_);(refine bB H ?_;clear H;intro b w H;try simp only[nr]at H))|((with_reducible refine gA ?_);(refine bA H ?_;clear H;intro b w H;try simp only[nr]at H))|((with_reducible refine gZ ?_);refine nb1 ?_)))
  (refine ret_c Tryz.results136 rfl H atd_ (by first|(with_reducible exact row_Node)|(with_reducible exact row_Set)|(with_reducible exact row_Flags)) (by rfl) rfl ?_)
  exact⟨rfl,H.below⟩
 | false =>
  go_enter Tryz.func136,Tryz.ntmps136
  go_wp2_with (first|(first|((with_reducible refine gT ?_);(refine aT H ?_;clear H;intro w H;try simp only[nr]at H))|((with_reducible refine gL ?_);refine aG H ?_)|((with_reducible refine gX ?_);(refine bB H ?_;clear H;intro b w H;try simp only[nr]at H))|((with_reducible refine gA ?_);(refine bA H ?_;clear H;intro b w H;try simp only[nr]at H))|((with_reducible refine gZ ?_);refine nb1 ?_)))
  (refine ret_c Tryz.results136 rfl H atd_ (by first|(with_reducible exact row_Node)|(with_reducible exact row_Set)|(with_reducible exact row_Flags)) (by rfl) rfl ?_)
  exact⟨rfl,H.below⟩
theorem rng_255 (w0:World):Calls Tryz.prog 134 #[.int .u8 0,.int .u8 255] w0 fun e w'=>e=.returned (setV (rangeS 0 256))∧Below w0.heap.size w0 w':=ref_Range 0 255 (by omega) (by omega) w0
theorem of_10 (v:Value) (w0:World) (h:Rd w0 w0.heap.size v [.int .u8 10]):Calls Tryz.prog 135 #[v] w0 fun e w'=>e=.returned (setV (ofS [10]))∧Below w0.heap.size w0 w':=ref_Of v [10] (by simp) w0 h
theorem caseS_ok {s:Nat→Nat} (hs:SetOk s):SetOk (caseS s):=caseTo_ok hs 26
theorem ref_atom (f:FlagsD) (d:WordD) (hs:SetOk d.set) (w0:World):Calls Tryz.prog 109 #[wordV d,flagsV f] w0 fun e w'=>e=.returned (nodeV (atomP d f).d nilS)∧Below w0.heap.size w0 w':=by
 have H:=Hold.start w0;have E:atomP d f=atomP d f:=rfl
 conv at E=>rhs;unfold atomP
 by_cases h1:d.kind=1
 ·have d1:((d.kind:Int) == 1)=true:=by rw[beq_iff_eq];omega
  rw[if_pos h1]at E;clear h1;have hof:=fun s w=>ref_of s w
  cases hf:f.1 with
  | true =>
   rw[hf]at E;simp only[if_true]at E;have hfo:=fun w=>ref_Fold d.set hs w
   have hno:=fun w=>ref_Not (caseS d.set) (caseS_ok hs) w
   cases hg:d.neg with
   | true =>
    rw[hg]at E;simp only[if_true]at E;have E2:=Lib.hid E;clear E
    go_enter Tryz.func109,Tryz.ntmps109
    go_wp2_with (first|(first|((with_reducible refine gT ?_);((first|refine aS H ?_|refine aT H ?_);clear H;intro w H;try simp only[nr]at H))|((with_reducible refine gL ?_);(first|refine aV H ?_|refine aL H ?_|refine aGb H ?_|refine aG H ?_))|((with_reducible refine gX ?_);(refine bB H ?_;clear H;intro b w H;try simp only[nr]at H))|((with_reducible refine gA ?_);(refine bA H ?_;clear H;intro b w H;try simp only[nr]at H)))|(go_at_call 131;(with_reducible refine ch (hfo _) H ?_);clear H;intro w H)|(go_at_call 132;(with_reducible refine ch (hno _) H ?_);clear H;intro w H)|(go_at_call 133;(with_reducible refine ch (hof _ _) H ?_);clear H;intro w H))
    (refine ret_c Tryz.results109 rfl H atd_ (by first|(with_reducible exact row_Node)|(with_reducible exact row_Set)|(with_reducible exact row_Flags)) (by rfl) rfl ?_)
    exact⟨by rw[E2.out],H.below⟩
   | false =>
    rw[hg]at E;simp only[Bool.false_eq_true,if_false]at E;have E2:=Lib.hid E;clear E
    go_enter Tryz.func109,Tryz.ntmps109
    go_wp2_with (first|(first|((with_reducible refine gT ?_);((first|refine aS H ?_|refine aT H ?_);clear H;intro w H;try simp only[nr]at H))|((with_reducible refine gL ?_);(first|refine aV H ?_|refine aL H ?_|refine aGb H ?_|refine aG H ?_))|((with_reducible refine gX ?_);(refine bB H ?_;clear H;intro b w H;try simp only[nr]at H))|((with_reducible refine gA ?_);(refine bA H ?_;clear H;intro b w H;try simp only[nr]at H)))|(go_at_call 131;(with_reducible refine ch (hfo _) H ?_);clear H;intro w H)|(go_at_call 133;(with_reducible refine ch (hof _ _) H ?_);clear H;intro w H))
    (refine ret_c Tryz.results109 rfl H atd_ (by first|(with_reducible exact row_Node)|(with_reducible exact row_Set)|(with_reducible exact row_Flags)) (by rfl) rfl ?_)
    exact⟨by rw[E2.out],H.below⟩
  | false =>
   rw[hf]at E;simp only[Bool.false_eq_true,if_false]at E;have hno:=fun w=>ref_Not d.set hs w
   cases hg:d.neg with
   | true =>
    rw[hg]at E;simp only[if_true]at E;have E2:=Lib.hid E;clear E
    go_enter Tryz.func109,Tryz.ntmps109
    go_wp2_with (first|(first|((with_reducible refine gT ?_);((first|refine aS H ?_|refine aT H ?_);clear H;intro w H;try simp only[nr]at H))|((with_reducible refine gL ?_);(first|refine aV H ?_|refine aL H ?_|refine aGb H ?_|refine aG H ?_))|((with_reducible refine gX ?_);(refine bB H ?_;clear H;intro b w H;try simp only[nr]at H))|((with_reducible refine gA ?_);(refine bA H ?_;clear H;intro b w H;try simp only[nr]at H)))|(go_at_call 132;(with_reducible refine ch (hno _) H ?_);clear H;intro w H)|(go_at_call 133;(with_reducible refine ch (hof _ _) H ?_);clear H;intro w H))
    (refine ret_c Tryz.results109 rfl H atd_ (by first|(with_reducible exact row_Node)|(with_reducible exact row_Set)|(with_reducible exact row_Flags)) (by rfl) rfl ?_)
    exact⟨by rw[E2.out],H.below⟩
   | false =>
    rw[hg]at E;simp only[Bool.false_eq_true,if_false]at E;have E2:=Lib.hid E;clear E
    go_enter Tryz.func109,Tryz.ntmps109
    go_wp2_with (first|(first|((with_reducible refine gT ?_);((first|refine aS H ?_|refine aT H ?_);clear H;intro w H;try simp only[nr]at H))|((with_reducible refine gL ?_);(first|refine aV H ?_|refine aL H ?_|refine aGb H ?_|refine aG H ?_))|((with_reducible refine gX ?_);(refine bB H ?_;clear H;intro b w H;try simp only[nr]at H))|((with_reducible refine gA ?_);(refine bA H ?_;clear H;intro b w H;try simp only[nr]at H)))|(go_at_call 133;(with_reducible refine ch (hof _ _) H ?_);clear H;intro w H))
    (refine ret_c Tryz.results109 rfl H atd_ (by first|(with_reducible exact row_Node)|(with_reducible exact row_Set)|(with_reducible exact row_Flags)) (by rfl) rfl ?_)
    exact⟨by rw[E2.out],H.below⟩
 ·have d1:((d.kind:Int) == 1)=false:=by rw[beq_eq_false_iff_ne];omega
  rw[if_neg h1]at E;clear h1
  by_cases h2:d.kind=2
  ·have d2:((d.kind:Int) == 2)=true:=by rw[beq_iff_eq];omega
   rw[if_pos h2]at E;clear h2
   cases hf:f.2.2 with
   | true =>
    rw[hf]at E;simp only[if_true]at E;have E2:=Lib.hid E;clear E;have hof:=fun w=>ref_of (rangeS 0 256) w
    have hr:=fun w=>rng_255 w
    go_enter Tryz.func109,Tryz.ntmps109
    go_wp2_with (first|(first|((with_reducible refine gT ?_);(refine aT H ?_;clear H;intro w H;try simp only[nr]at H))|((with_reducible refine gL ?_);(first|refine aGb H ?_|refine aG H ?_))|((with_reducible refine gX ?_);(refine bB H ?_;clear H;intro b w H;try simp only[nr]at H))|((with_reducible refine gA ?_);(refine bA H ?_;clear H;intro b w H;try simp only[nr]at H)))|(go_at_call 134;(with_reducible refine ch (hr _) H ?_);clear H;intro w H)|(go_at_call 133;(with_reducible refine ch (hof _) H ?_);clear H;intro w H))
    (refine ret_c Tryz.results109 rfl H atd_ (by first|(with_reducible exact row_Node)|(with_reducible exact row_Set)|(with_reducible exact row_Flags)) (by rfl) rfl ?_)
    exact⟨by rw[E2.out],H.below⟩
   | false =>
    rw[hf]at E;simp only[Bool.false_eq_true,if_false]at E;have E2:=Lib.hid E;clear E;have hof:=fun w=>ref_of (notS (ofS [10])) w
    have hno:=fun w=>ref_Not (ofS [10]) (ofS_ok _) w
    go_enter Tryz.func109,Tryz.ntmps109
    go_wp2_with (first|(first|((with_reducible refine gT ?_);(refine aT H ?_;clear H;intro w H;try simp only[nr]at H))|((with_reducible refine gL ?_);(first|refine aGb H ?_|refine aG H ?_))|((with_reducible refine gX ?_);(refine bB H ?_;clear H;intro b w H;try simp only[nr]at H))|((with_reducible refine gA ?_);(refine bA H ?_;clear H;intro b w H;try simp only[nr]at H)))|((with_reducible show @wpList _ _ _ ({dst:=_,op:=Op.buildSlice _ _ _,type:=_,pos:=_,after:=_,guard:=_}::_) _ _);refine own_build wtd_ _ _ _ rfl H (#[.int .u8 10]) 5 (by intro W;simp only[List.map_toArray,List.map_cons,List.map_nil];(try simp only[pe]);(try unfold setV);simp[go_sem]<;>rfl) ?_;clear H;intro b w H;try simp only[nr]at H)|(go_at_call 135;(with_reducible refine ch (of_10 _ _ (H.rdn (cs:=[.int .u8 10]) atd_ (by simp) (by simp[maxLen]))) H ?_);clear H;intro w H)|(go_at_call 132;(with_reducible refine ch (hno _) H ?_);clear H;intro w H)|(go_at_call 133;(with_reducible refine ch (hof _) H ?_);clear H;intro w H))
    (refine ret_c Tryz.results109 rfl H atd_ (by first|(with_reducible exact row_Node)|(with_reducible exact row_Set)|(with_reducible exact row_Flags)) (by rfl) rfl ?_)
    exact⟨by rw[E2.out],H.below⟩
  ·have d2:((d.kind:Int) == 2)=false:=by rw[beq_eq_false_iff_ne];omega
   rw[if_neg h2]at E;clear h2
   by_cases h3:d.kind=3
   ·have d3:((d.kind:Int) == 3)=true:=by rw[beq_iff_eq];omega
    rw[if_pos h3]at E;clear h3;have E2:=Lib.hid E;clear E;have hsp:=fun w=>ref_spot10 f 8 10 w
    go_enter Tryz.func109,Tryz.ntmps109
    go_wp2_with (first|(first|((with_reducible refine gT ?_);(refine aT H ?_;clear H;intro w H;try simp only[nr]at H))|((with_reducible refine gL ?_);(first|refine aG H ?_|refine aD H ?_))|((with_reducible refine gX ?_);(refine bB H ?_;clear H;intro b w H;try simp only[nr]at H))|((with_reducible refine gA ?_);(refine bA H ?_;clear H;intro b w H;try simp only[nr]at H)))|(go_at_call 136;(with_reducible refine ch (hsp _) H ?_);clear H;intro w H))
    (refine ret_c Tryz.results109 rfl H atd_ (by first|(with_reducible exact row_Node)|(with_reducible exact row_Set)|(with_reducible exact row_Flags)) (by rfl) rfl ?_)
    exact⟨by rw[E2.out],H.below⟩
   ·have d3:((d.kind:Int) == 3)=false:=by rw[beq_eq_false_iff_ne];omega
    rw[if_neg h3]at E;clear h3
    by_cases h4:d.kind=4
    ·have d4:((d.kind:Int) == 4)=true:=by rw[beq_iff_eq];omega
     rw[if_pos h4]at E;clear h4;have E2:=Lib.hid E;clear E;have hsp:=fun w=>ref_spot10 f 9 11 w
     go_enter Tryz.func109,Tryz.ntmps109
     go_wp2_with (first|(first|((with_reducible refine gT ?_);(refine aT H ?_;clear H;intro w H;try simp only[nr]at H))|((with_reducible refine gL ?_);(first|refine aG H ?_|refine aD H ?_))|((with_reducible refine gX ?_);(refine bB H ?_;clear H;intro b w H;try simp only[nr]at H))|((with_reducible refine gA ?_);(refine bA H ?_;clear H;intro b w H;try simp only[nr]at H)))|(go_at_call 136;(with_reducible refine ch (hsp _) H ?_);clear H;intro w H))
     (refine ret_c Tryz.results109 rfl H atd_ (by first|(with_reducible exact row_Node)|(with_reducible exact row_Set)|(with_reducible exact row_Flags)) (by rfl) rfl ?_)
     exact⟨by rw[E2.out],H.below⟩
    ·have d4:((d.kind:Int) == 4)=false:=by rw[beq_eq_false_iff_ne];omega
     rw[if_neg h4]at E;clear h4;have E2:=Lib.hid E;clear E
     go_enter Tryz.func109,Tryz.ntmps109
     go_wp2_with (first|(first|((with_reducible refine gT ?_);(refine aT H ?_;clear H;intro w H;try simp only[nr]at H))|((with_reducible refine gL ?_);refine aG H ?_)|((with_reducible refine gX ?_);(refine bB H ?_;clear H;intro b w H;try simp only[nr]at H))|((with_reducible refine gA ?_);(refine bA H ?_;clear H;intro b w H;try simp only[nr]at H))|((with_reducible refine gZ ?_);refine nb1 ?_)))
     (refine ret_c Tryz.results109 rfl H atd_ (by first|(with_reducible exact row_Node)|(with_reducible exact row_Set)|(with_reducible exact row_Flags)) (by rfl) rfl ?_)
     exact⟨by rw[E2.out];rfl,H.below⟩
def Knows (F:Nat→Prop) (p:Option Addr) (n c:Nat) (xs:List TV) (V:World):Prop:=RdN 10 V F (.slice p n c) (xs.map nodeX)∧ListR V F xs
section
variable {F:Nat→Prop} {p:Option Addr} {n c:Nat} {xs:List TV} {V W w0:World}
theorem Knows.kept (h:Knows F p n c xs W) (hV:∀ b,F b→V.heap[b]?=W.heap[b]?):Knows F p n c xs V:=⟨h.1.kept hV,h.2.kept hV⟩
theorem Knows.forest (h:Knows F p (xs.map (·.1)).length c xs V):ForestR V F p c (xs.map (·.1)):=.mk _ _ _ xs h.1 h.2 rfl
theorem Hold.knows (hF:∀ b,F b→b<w0.heap.size) (h:Knows F p n c xs w0):Hold w0 w0 [.kn F (Knows F p n c xs)] :=
 (Hold.start w0).know F (Knows F p n c xs) hF (fun i r h=>by simp at h) (fun V hV=>h.kept hV)
theorem Knows.cells {b off:Nat} (h:Knows F (some ⟨b,off,none⟩) n c xs V) {j:Nat} {x:TV} (hj:xs[j]?=some x) {q:Nat} (hq:off+j * 10=q):∀ k,k<10→V.cell? ⟨b,q+k,none⟩=(nodeX x)[k]?:=by
 obtain⟨p,c,e1,_,_,_,h3⟩:=h.1;obtain⟨b',off',e2,_,_,h4⟩:=h3 j (nodeX x) (by rw[List.getElem?_map,hj];rfl)
 cases e1;cases e2;subst hq
 exact h4
theorem Knows.bound (h:Knows F p n c xs V):n=xs.length∧n≤c∧c≤9223372036854775807:=by
 obtain⟨p,c,e1,h1,h2,_,h3⟩:=h.1
 cases e1
 unfold maxLen at h2;rw[List.length_map]at h1 ⊢;exact⟨rfl,h1,h2⟩
theorem Knows.at (h:Knows F p n c xs V) (h0:0<xs.length):∃ b off,p=some ⟨b,off,none⟩:=by
 obtain⟨p,c,e1,h1,h2,_,h3⟩:=h.1
 cases e1
 obtain⟨b,off,e,_⟩:=h3 0 _ (by rw[List.getElem?_map,List.getElem?_eq_getElem h0];rfl)
 exact⟨b,off,e⟩
end
theorem ref_row10 (k:Int) (p:Option Addr) (c n:Nat) (F:Nat→Prop) (ts:List Tree) (w0:World) (hF:∀ b,F b→b<w0.heap.size) (h:ForestR w0 F p c ts) (hn:n=ts.length) :
  Calls Tryz.prog 107 #[.int .i64 k,.slice p n c] w0 fun e w'=>TreeOut w0 F (rowT k ts) e w'∧Below w0.heap.size w0 w':=by
 obtain⟨xs,h1,h2,rfl⟩:=h.open;rw[List.length_map]at hn;rw[← hn]at h1;have hK:Knows F p n c xs w0:=⟨h1,h2⟩;clear h h1 h2;have H:=Hold.knows hF hK;have hc1:=hK.bound.2.1;have hc2:=hK.bound.2.2;have hp:=hK.at;rcases xs with _|⟨x,_|⟨y,xs⟩⟩
 ·obtain rfl:n=0:=hn;clear hp
  go_enter Tryz.func107,Tryz.ntmps107
  go_wp2_with (first|(first|((with_reducible refine gT ?_);(refine aT H ?_;clear H;intro w H;try simp only[nr]at H))|((with_reducible refine gA ?_);(refine bA H ?_;clear H;intro b w H;try simp only[nr]at H))|((with_reducible refine gZ ?_);refine nb1 ?_)))
  (refine ret_c Tryz.results107 rfl H atd_ (by first|(with_reducible exact row_Node)|(with_reducible exact row_Set)|(with_reducible exact row_Flags)) (by rfl) rfl ?_)
  exact⟨⟨none,0,fun _=>False,rfl,ForestR.nil ..,fun _ h=>h.elim⟩,H.below⟩
 ·obtain rfl:n=1:=hn;obtain⟨b,off,rfl⟩:=hp (by simp)
  clear hp;have hcell:∀ V,Knows F (some ⟨b,off,none⟩) 1 c [x] V→∀ k,k<10→V.cell? ⟨b,off+k,none⟩=(nodeX x)[k]?:=fun V h=>h.cells (j:=0) rfl rfl
  go_enter Tryz.func107,Tryz.ntmps107
  go_wp2_with (first|((with_reducible refine gL ?_);refine own_loadK wtd_ _ _ rfl rfl row_Node (nodeX_size x) (hcell _ (H.kn .zero)) ?_)|(first|((with_reducible refine gT ?_);(refine aT H ?_;clear H;intro w H;try simp only[nr]at H))|((with_reducible refine gA ?_);(refine bA H ?_;clear H;intro b w H;try simp only[nr]at H))))
  (refine ret_c Tryz.results107 rfl H atd_ (by first|(with_reducible exact row_Node)|(with_reducible exact row_Set)|(with_reducible exact row_Flags)) (by rfl) rfl ?_)
  exact⟨⟨_,_,F,rfl,(H.kn (i:=0) .zero).2 x (List.mem_singleton.2 rfl),fun b h=>⟨H.knlt .zero b h,.inr h⟩⟩,H.below⟩
 ·clear hp;have h2:2≤n:=by rw[hn];simp
  have HN:=Lib.hid hn;clear hn;have d0:((n:Int) == 0)=false:=by rw[beq_eq_false_iff_ne];omega
  have d1:((n:Int) == 1)=false:=by rw[beq_eq_false_iff_ne];omega
  go_enter Tryz.func107,Tryz.ntmps107
  go_wp2_with (first|(first|((with_reducible refine gT ?_);(refine aT H ?_;clear H;intro w H;try simp only[nr]at H))|((with_reducible refine gA ?_);(refine bA H ?_;clear H;intro b w H;try simp only[nr]at H))|((with_reducible refine gZ ?_);refine nbK ?_)))
  (refine ret_c Tryz.results107 rfl H atd_ (by first|(with_reducible exact row_Node)|(with_reducible exact row_Set)|(with_reducible exact row_Flags)) (by rfl) rfl ?_)
  have e:n=((x::y::xs).map (·.1)).length:=by rw[HN.out,List.length_map]
  refine⟨⟨p,c,F,by rw[e];rfl,?_,fun b h=>⟨H.knlt .zero b h,.inr h⟩⟩,H.below⟩
  have:=H.kn (i:=0) .zero;rw[e]at this;exact this.forest
theorem size_snoc {xs:List TV} {j:Nat} {x:TV} (h:xs[j]?=some x):sizeTs ((xs.map (·.1)).take (j+1))=sizeTs ((xs.map (·.1)).take j)+sizeT x.1:=sizeTs_take (by rw[List.getElem?_map,h];rfl)
theorem size_part {xs:List TV} {j:Nat} {x:TV} (h:xs[j]?=some x):sizeTs ((xs.map (·.1)).take j)+sizeT x.1≤sizeTs (xs.map (·.1)):=sizeTs_mem (by rw[List.getElem?_map,h];rfl)
theorem ref_Nodes:∀ (m:Nat) (t:Tree) (p:Option Addr) (n c:Nat) (F:Nat→Prop) (w0:World),sizeT t≤m→m≤1000000000000→(∀ b,F b→b<w0.heap.size)→ForestR w0 F p c t.kids→n=t.kids.length →
  Calls Tryz.prog 65 #[nodeV t.d (.slice p n c)] w0 fun e w'=>e=.returned (.int .i64 (sizeT t))∧Below w0.heap.size w0 w'
 | 0,t,_,_,_,_,_,hm,_,_,_,_=>by have:=sizeT_pos t;omega
 | m+1,.mk d ts,p,n,c,F,w0,hm,hm2,hF,h,hn=>by
  have IH:=ref_Nodes m;simp only[Tree.kids,Tree.d]at h hn ⊢;obtain⟨xs,h1,h2,rfl⟩:=h.open;rw[List.length_map]at hn;rw[← hn]at h1;have hK:Knows F p n c xs w0:=⟨h1,h2⟩;clear h h1 h2;have H:=Hold.knows hF hK;have hc1:=hK.bound.2.1;have hc2:=hK.bound.2.2;have hp:=hK.at;clear hK;have E:sizeT (.mk d (xs.map (·.1)))=1+sizeTs (xs.map (·.1)):=by simp[sizeT]
  rw[E]at hm;have E2:=Lib.hid E;clear E;have HN:=Lib.hid hn;clear hn
  go_enter Tryz.func65,Tryz.ntmps65
  go_wp2_with (first|((first|((with_reducible refine kgA 1 ?_);refine kA 1 H ?_)|((with_reducible refine kgX 1 ?_);(first|refine kS 1 H ?_|refine kB 1 H ?_)));clear H;intro b1 w H;try simp only[nr]at H)|fail)
  go_loopw [3,4] (fun k i wr=>∃ j:Nat,j≤n∧i=.int .i64 j∧k=.int .i64 ((1+sizeTs ((xs.map (·.1)).take j):Nat):Int)∧Hold w0 wr [.kn F (Knows F p n c xs),.blk b1 (nodeC d (.slice p n c)) 87]) (fun _ i _=>n+1 - (intOf i).toNat)
  case atStart=>exact⟨0,by omega,rfl,by simp[sizeTs],H⟩
  case round =>
   clear H;obtain⟨j,hj,rfl,rfl,H⟩:=hrel
   by_cases hlt:j<n
   ·have dj:decide ((j:Int)<(n:Int))=true:=by simp;omega
    obtain⟨x,hx⟩:∃ x,xs[j]?=some x:=⟨_,List.getElem?_eq_getElem (by rw[← HN.out];exact hlt)⟩
    obtain⟨b,off,rfl⟩:=hp (by rw[← HN.out];omega)
    have hs1:=size_part hx;have HS:=Lib.hid (size_snoc hx);have hmem:=List.mem_of_getElem? hx;have hcell:∀ V,Knows F (some ⟨b,off,none⟩) n c xs V→∀ k,k<10→V.cell? ⟨b,off+j * 10+k,none⟩=(nodeX x)[k]?:=fun V h=>h.cells hx rfl
    have ih:=fun w (hw:∀ b,F b→b<w.heap.size) (hk:Knows F (some ⟨b,off,none⟩) n c xs w)=>IH x.1 x.2.1 _ x.2.2 F w (by omega) (by omega) hw (hk.2 x hmem) rfl
    clear IH hx hmem hp
    generalize sizeTs ((xs.map (·.1)).take j)=S at *
    go_wp2_with (first|((with_reducible refine gL ?_);refine own_loadK wtd_ _ _ rfl rfl row_Node (nodeX_size x) (hcell _ (H.kn .zero)) ?_)|((with_reducible refine gL ?_);refine aG H ?_)|(go_at_call 65;(with_reducible refine ch (ih _ (H.knlt .zero) (H.kn .zero)) H ?_);clear H;intro w H))
    go_roundw
    case rel=>exact⟨j+1,by omega,by go_num,by rw[HS.out];go_num,H⟩
    case measure=>simp[intOf];omega
   ·have dj:decide ((j:Int)<(n:Int))=false:=by simp;omega
    obtain rfl:j=n:=by omega
    go_wp2_with (first|((with_reducible refine gL ?_);refine aG H ?_))
    go_ret;exact⟨reti (by rw[E2.out,List.take_of_length_le (by rw[List.length_map,← HN.out];exact Nat.le_refl _)];omega),H.below⟩
theorem deep_snoc {xs:List TV} {j:Nat} {x:TV} (h:xs[j]?=some x):deepTs ((xs.map (·.1)).take (j+1))=max (deepTs ((xs.map (·.1)).take j)) (deepT x.1):=deepTs_take (by rw[List.getElem?_map,h];rfl)
theorem ref_Deep:∀ (m:Nat) (t:Tree) (p:Option Addr) (n c:Nat) (F:Nat→Prop) (w0:World),sizeT t≤m→m≤1000000000000→(∀ b,F b→b<w0.heap.size)→ForestR w0 F p c t.kids→n=t.kids.length →
  Calls Tryz.prog 66 #[nodeV t.d (.slice p n c)] w0 fun e w'=>e=.returned (.int .i64 (deepT t))∧Below w0.heap.size w0 w'
 | 0,t,_,_,_,_,_,hm,_,_,_,_=>by have:=sizeT_pos t;omega
 | m+1,.mk d ts,p,n,c,F,w0,hm,hm2,hF,h,hn=>by
  have IH:=ref_Deep m;simp only[Tree.kids,Tree.d]at h hn ⊢;obtain⟨xs,h1,h2,rfl⟩:=h.open;rw[List.length_map]at hn;rw[← hn]at h1;have hK:Knows F p n c xs w0:=⟨h1,h2⟩;clear h h1 h2;have H:=Hold.knows hF hK;have hc1:=hK.bound.2.1;have hc2:=hK.bound.2.2;have hp:=hK.at;clear hK;have E:deepT (.mk d (xs.map (·.1)))=deepTs (xs.map (·.1))+1:=by simp[deepT]
  have hd:=deeps_size (xs.map (·.1));simp only[sizeT]at hm;have E2:=Lib.hid E;clear E;have HN:=Lib.hid hn;clear hn
  go_enter Tryz.func66,Tryz.ntmps66
  go_wp2_with (first|((first|((with_reducible refine kgA 1 ?_);refine kA 1 H ?_)|((with_reducible refine kgX 1 ?_);(first|refine kS 1 H ?_|refine kB 1 H ?_)));clear H;intro b1 w H;try simp only[nr]at H)|fail)
  go_loopw [3,4] (fun k i wr=>∃ j:Nat,j≤n∧i=.int .i64 j∧k=.int .i64 ((deepTs ((xs.map (·.1)).take j):Nat):Int)∧deepTs ((xs.map (·.1)).take j)≤m∧Hold w0 wr [.kn F (Knows F p n c xs),.blk b1 (nodeC d (.slice p n c)) 87]) (fun _ i _=>n+1 - (intOf i).toNat)
  case atStart=>exact⟨0,by omega,rfl,by simp[deepTs],by simp[deepTs],H⟩
  case round =>
   clear H;obtain⟨j,hj,rfl,rfl,hS,H⟩:=hrel
   by_cases hlt:j<n
   ·have dj:decide ((j:Int)<(n:Int))=true:=by simp;omega
    obtain⟨x,hx⟩:∃ x,xs[j]?=some x:=⟨_,List.getElem?_eq_getElem (by rw[← HN.out];exact hlt)⟩
    obtain⟨b,off,rfl⟩:=hp (by rw[← HN.out];omega)
    have hs1:=size_part hx;have hs2:=deep_size x.1;have HS:=Lib.hid (deep_snoc hx);have hmem:=List.mem_of_getElem? hx;have hcell:∀ V,Knows F (some ⟨b,off,none⟩) n c xs V→∀ k,k<10→V.cell? ⟨b,off+j * 10+k,none⟩=(nodeX x)[k]?:=fun V h=>h.cells hx rfl
    have ih:=fun w (hw:∀ b,F b→b<w.heap.size) (hk:Knows F (some ⟨b,off,none⟩) n c xs w)=>IH x.1 x.2.1 _ x.2.2 F w (by omega) (by omega) hw (hk.2 x hmem) rfl
    clear IH hx hmem hp
    generalize deepTs ((xs.map (·.1)).take j)=S at *
    go_wp2_with (first|((with_reducible refine gL ?_);refine own_loadK wtd_ _ _ rfl rfl row_Node (nodeX_size x) (hcell _ (H.kn .zero)) ?_)|((with_reducible refine gL ?_);refine aG H ?_)|(go_at_call 66;(with_reducible refine ch (ih _ (H.knlt .zero) (H.kn .zero)) H ?_);clear H;intro w H))
    go_roundw
    case rel=>exact⟨j+1,by omega,by go_num,by rw[HS.out];go_num,by rw[HS.out];omega,H⟩
    case measure=>simp[intOf];omega
   ·have dj:decide ((j:Int)<(n:Int))=false:=by simp;omega
    obtain rfl:j=n:=by omega
    go_wp2_with (first|((with_reducible refine gL ?_);refine aG H ?_))
    go_ret;exact⟨reti (by rw[E2.out,List.take_of_length_le (by rw[List.length_map,← HN.out];exact Nat.le_refl _)];omega),H.below⟩
def WKnows (F:Nat→Prop) (p:Option Addr) (n c:Nat) (ws:List WordD) (V:World):Prop:=RdN 17 V F (.slice p n c) (ws.map wordC)
section
variable {F:Nat→Prop} {p:Option Addr} {n c:Nat} {ws:List WordD} {V W w0:World}
theorem WKnows.kept (h:WKnows F p n c ws W) (hV:∀ b,F b→V.heap[b]?=W.heap[b]?):WKnows F p n c ws V:=RdN.kept h hV
theorem WKnows.cells {b off:Nat} (h:WKnows F (some ⟨b,off,none⟩) n c ws V) {j:Nat} {d:WordD} (hj:ws[j]?=some d) {q:Nat} (hq:off+j * 17=q):∀ k,k<17→V.cell? ⟨b,q+k,none⟩=(wordC d)[k]?:=by
 obtain⟨p,c,e1,_,_,_,h3⟩:=h;obtain⟨b',off',e2,_,_,h4⟩:=h3 j (wordC d) (by rw[List.getElem?_map,hj];rfl)
 cases e1;cases e2;subst hq
 exact h4
theorem WKnows.kind {b off:Nat} (h:WKnows F (some ⟨b,off,none⟩) n c ws V) {j:Nat} {d:WordD} (hj:ws[j]?=some d):V.cell? ⟨b,off+j * 17,none⟩=some (.int .i64 d.kind):=h.cells hj rfl 0 (by omega)
theorem WKnows.place {b off:Nat} (h:WKnows F (some ⟨b,off,none⟩) n c ws V) {j:Nat} {d:WordD} (hj:ws[j]?=some d):V.cell? ⟨b,off+j * 17+1,none⟩=some (.int .i64 d.place):=h.cells hj rfl 1 (by omega)
theorem WKnows.bound (h:WKnows F p n c ws V):n=ws.length∧n≤c∧c≤9223372036854775807:=by
 obtain⟨p,c,e1,h1,h2,_,h3⟩:=h
 cases e1
 unfold maxLen at h2;rw[List.length_map]at h1 ⊢;exact⟨rfl,h1,h2⟩
theorem WKnows.at (h:WKnows F p n c ws V) (h0:0<ws.length):∃ b off,p=some ⟨b,off,none⟩:=by
 obtain⟨p,c,e1,h1,h2,_,h3⟩:=h
 cases e1
 obtain⟨b,off,e,_⟩:=h3 0 _ (by rw[List.getElem?_map,List.getElem?_eq_getElem h0];rfl)
 exact⟨b,off,e⟩
end
def intsC (l:List Nat):List Value:=l.map (fun a:Nat=>Value.int .i64 (a:Int))
theorem intsC_get {l:List Nat} {j a:Nat} (h:l[j]?=some a):(intsC l)[j]?=some (.int .i64 (a:Int)):=by simp[intsC,h]
def placeI (o:Option Nat):Int:=match o with|some a=>a|none => -1
theorem info_int:(Tryz.prog.info? 3).map (fun i=>(i.zero,i.size,i.bytes))=some (some (.int .i64 0),1,8):=by kernel_rfl
theorem last_get {l:List Nat} (h:l≠[]):∃ a,l[l.length - 1]?=some a∧l.getLast?=some a:=by
 refine⟨l.getLast h,?_,List.getLast?_eq_some_getLast h⟩;rw[← List.getLast?_eq_getElem?];exact List.getLast?_eq_some_getLast h
theorem ref_wrong (p:Option Addr) (n c:Nat) (F:Nat→Prop) (ws:List WordD) (w0:World) (hF:∀ b,F b→b<w0.heap.size) (hK:WKnows F p n c ws w0) (hn2:n≤1000) :
  Calls Tryz.prog 63 #[.slice p n c] w0 fun e w'=>e=.returned (.int .i64 (placeI (wrongP ws)))∧Below w0.heap.size w0 w':=by
 obtain⟨i0,hi0,hz0,hz1,hz2⟩:=info_parts info_int;have H:=(Hold.start w0).know F (WKnows F p n c ws) hF (fun i r h=>by simp at h) (fun V hV=>hK.kept hV)
 have hb:=hK.bound;have hp:=hK.at;clear hK;have HN:=Lib.hid hb.1;have hc1:=hb.2.1;have hc2:=hb.2.2;clear hb
 go_enter Tryz.func63,Tryz.ntmps63
 go_wp2_with (first|fail)
 replace H:=H.addNil 3 1;simp only[List.nil_append,List.cons_append]at H
 go_loopw [3,4] (fun v i wr=>∃ (j:Nat) (op:List Nat),j≤n∧i=.int .i64 j∧op.length≤j∧Hid (wrongP ws=wrongGo (bareAt ws j) op (ws.drop j))∧Hold w0 wr [.kn F (WKnows F p n c ws),.row v 3 1 op.length (intsC op)]) (fun _ i _=>n+1 - (intOf i).toNat)
 case atStart=>exact⟨0,[],by omega,rfl,by simp,Lib.hid rfl,(by simpa [intsC] using H)⟩
 case round =>
  clear H;obtain⟨j,op,hj,rfl,hol,G,H⟩:=hrel
  by_cases hlt:j<n
  ·have dj:decide ((j:Int)<(n:Int))=true:=by simp;omega
   obtain⟨d,hd⟩:∃ d,ws[j]?=some d:=⟨_,List.getElem?_eq_getElem (by rw[← HN.out];exact hlt)⟩
   obtain⟨b,off,rfl⟩:=hp (by rw[← HN.out];omega)
   clear hp;have hkd:∀ V,WKnows F (some ⟨b,off,none⟩) n c ws V→V.cell? ⟨b,off+j * 17,none⟩=some (.int .i64 d.kind):=fun V h=>h.kind hd
   have hpl:∀ V,WKnows F (some ⟨b,off,none⟩) n c ws V→V.cell? ⟨b,off+j * 17+1,none⟩=some (.int .i64 d.place):=fun V h=>h.place hd
   have hcell:∀ V,WKnows F (some ⟨b,off,none⟩) n c ws V→∀ k,k<17→V.cell? ⟨b,off+j * 17+k,none⟩=(wordC d)[k]?:=fun V h=>h.cells hd rfl
   have HD:=Lib.hid hd;clear hd;obtain⟨q,cap,rfl,hq1,hq2,hq3⟩:=H.rowShape i_1;unfold maxLen at hq2
   generalize hm:op.length=m at hol H hq1 hq3
   have HM:=Lib.hid hm;clear hm
   go_upto_region 5 with fail
   go_cut [5] from 6 to 99 (fun v wx=>v=.bool (bareAt ws j)∧Hold w0 wx [.kn F (WKnows F (some ⟨b,off,none⟩) n c ws),.row (.slice q m cap) 3 1 m (intsC op)])
   case first =>
    rcases j with _|k
    ·go_wp2_with (first|fail)
     go_meet
     case rel=>exact⟨rfl,H⟩
    ·obtain⟨d',hd'⟩:∃ d',ws[k]?=some d':=⟨_,List.getElem?_eq_getElem (by rw[← HN.out];omega)⟩
     have hkd':∀ V,WKnows F (some ⟨b,off,none⟩) n c ws V→V.cell? ⟨b,off+k * 17,none⟩=some (.int .i64 d'.kind):=fun V h=>h.kind hd'
     have hcell':∀ V,WKnows F (some ⟨b,off,none⟩) n c ws V→∀ q,q<17→V.cell? ⟨b,off+k * 17+q,none⟩=(wordC d')[q]?:=fun V h=>h.cells hd' rfl
     have hb':=bareAt_succ hd';clear hd';have hop:=fun w=>ref_opens d' w
     have hkn:decide (k<n)=true:=by simp;omega
     have hk0:((k:Int)+1 == 0)=false:=by rw[beq_eq_false_iff_ne];omega
     cases ho:opensP d' with
     | true =>
      have E:=Lib.hid (show bareAt ws (k+1)=true by rw[hb'];simp[bareW,ho])
      rw[ho]at hop;clear ho hb'
      go_wp2_with (first|((with_reducible refine gL ?_);refine own_loadK wtd_ _ _ rfl rfl row_Word rfl (hcell' _ (H.kn .zero)) ?_)|fail|(go_at_call 105;(with_reducible refine ch (hop _) H ?_);clear H;intro w H))
      go_meet
      case rel=>exact⟨by rw[E.out],H⟩
     | false =>
      rw[ho]at hop
      by_cases h8:d'.kind=8
      ·have d8:((d'.kind:Int) == 8)=true:=by rw[beq_iff_eq];omega
       have E:=Lib.hid (show bareAt ws (k+1)=true by rw[hb'];simp[bareW,h8])
       clear ho hb' h8
       go_wp2_with (first|((with_reducible refine gL ?_);refine own_loadK wtd_ _ _ rfl rfl row_Word rfl (hcell' _ (H.kn .zero)) ?_)|((with_reducible refine gL ?_);refine own_load1K wtd_ _ _ rfl rfl one_int (hkd' _ (H.kn .zero)) ?_)|fail|(go_at_call 105;(with_reducible refine ch (hop _) H ?_);clear H;intro w H))
       go_meet
       case rel=>exact⟨by rw[E.out],H⟩
      ·have d8:((d'.kind:Int) == 8)=false:=by rw[beq_eq_false_iff_ne];omega
       by_cases h10:d'.kind=10
       ·have d10:((d'.kind:Int) == 10)=true:=by rw[beq_iff_eq];omega
        have E:=Lib.hid (show bareAt ws (k+1)=true by rw[hb'];simp[bareW,h10])
        clear ho hb' h8 h10
        go_wp2_with (first|((with_reducible refine gL ?_);refine own_loadK wtd_ _ _ rfl rfl row_Word rfl (hcell' _ (H.kn .zero)) ?_)|((with_reducible refine gL ?_);refine own_load1K wtd_ _ _ rfl rfl one_int (hkd' _ (H.kn .zero)) ?_)|fail|(go_at_call 105;(with_reducible refine ch (hop _) H ?_);clear H;intro w H))
        go_meet
        case rel=>exact⟨by rw[E.out],H⟩
       ·have d10:((d'.kind:Int) == 10)=false:=by rw[beq_eq_false_iff_ne];omega
        have E:=Lib.hid (show bareAt ws (k+1)=((d'.kind:Int) == 11) by
         rw[hb'];simp only[bareW,ho,show (d'.kind == 8)=false from by simpa using h8,show (d'.kind == 10)=false from by simpa using h10,Bool.false_or]
         rw[Bool.eq_iff_iff,beq_iff_eq,beq_iff_eq];omega)
        clear ho hb' h8 h10
        go_wp2_with (first|((with_reducible refine gL ?_);refine own_loadK wtd_ _ _ rfl rfl row_Word rfl (hcell' _ (H.kn .zero)) ?_)|((with_reducible refine gL ?_);refine own_load1K wtd_ _ _ rfl rfl one_int (hkd' _ (H.kn .zero)) ?_)|fail|(go_at_call 105;(with_reducible refine ch (hop _) H ?_);clear H;intro w H))
        go_meet
        case rel=>exact⟨by rw[E.out],H⟩
   case rest =>
    obtain⟨rfl,H⟩:=hcut;have hop:=fun w=>ref_opens d w
    by_cases h11:d.kind=11
    ·have d11:((d.kind:Int) == 11)=true:=by rw[beq_iff_eq];omega
     have d9:((d.kind:Int) == 9)=false:=by rw[beq_eq_false_iff_ne];omega
     have ho:opensP d=false:=by simp[opensP,h11]
     cases hb:bareAt ws j with
     | true =>
      have E:=Lib.hid (show placeI (wrongP ws)=d.place by rw[G.out,wrong_hit HD.out (.inl ⟨h11,hb⟩)];rfl)
      clear h11 ho hb
      go_wp2_with (first|((with_reducible refine gL ?_);refine own_load1K wtd_ _ _ rfl rfl one_int (hkd _ (H.kn .zero)) ?_)|((with_reducible refine gL ?_);refine own_load1K wtd_ _ _ rfl rfl one_int (hpl _ (H.kn .zero)) ?_)|fail)
      go_ret;exact⟨reti E.out.symm,H.below⟩
     | false =>
      have G2:=Lib.hid (show wrongP ws=wrongGo (bareAt ws (j+1)) op (ws.drop (j+1)) by rw[G.out,hb,wrong_on HD.out (by simp[h11]) ho (by omega)])
      rw[ho]at hop;clear h11 ho hb
      go_wp2_with (first|((with_reducible refine gL ?_);refine own_loadK wtd_ _ _ rfl rfl row_Word rfl (hcell _ (H.kn .zero)) ?_)|((with_reducible refine gL ?_);refine own_load1K wtd_ _ _ rfl rfl one_int (hkd _ (H.kn .zero)) ?_)|fail|(go_at_call 105;(with_reducible refine ch (hop _) H ?_);clear H;intro w H))
      go_roundw
      case rel=>exact⟨j+1,op,by omega,by go_num,by rw[HM.out];omega,G2,by rw[HM.out];exact H⟩
      case measure=>simp[intOf];omega
    ·have d11:((d.kind:Int) == 11)=false:=by rw[beq_eq_false_iff_ne];omega
     by_cases h9:d.kind=9
     ·have d9:((d.kind:Int) == 9)=true:=by rw[beq_iff_eq];omega
      have ho:opensP d=false:=by simp[opensP,h9]
      rw[ho]at hop;rcases m with _|m
      ·have E:=Lib.hid (show placeI (wrongP ws)=d.place by rw[G.out,wrong_hit HD.out (.inr ⟨h9,List.length_eq_zero_iff.1 HM.out⟩)];rfl)
       clear h9 h11 ho hq1 hq3
       go_wp2_with (first|((with_reducible refine gL ?_);refine own_load1K wtd_ _ _ rfl rfl one_int (hkd _ (H.kn .zero)) ?_)|((with_reducible refine gL ?_);refine own_load1K wtd_ _ _ rfl rfl one_int (hpl _ (H.kn .zero)) ?_)|fail)
       go_ret;exact⟨reti E.out.symm,H.below⟩
      ·obtain⟨g,rfl⟩:=hq3 (by omega)
       clear hq3;have hm0:((m:Int)+1 == 0)=false:=by rw[beq_eq_false_iff_ne];omega
       have G2:=Lib.hid (show wrongP ws=wrongGo (bareAt ws (j+1)) op.dropLast (ws.drop (j+1)) by rw[G.out,wrong_close HD.out h9 (fun e=>by have:=HM.out;rw[e]at this;simp at this)])
       clear h9 h11 ho
       go_wp2_with (first|((with_reducible refine gL ?_);refine own_loadK wtd_ _ _ rfl rfl row_Word rfl (hcell _ (H.kn .zero)) ?_)|((with_reducible refine gL ?_);refine own_load1K wtd_ _ _ rfl rfl one_int (hkd _ (H.kn .zero)) ?_)|((with_reducible refine gL ?_);refine own_load1K wtd_ _ _ rfl rfl one_int (hpl _ (H.kn .zero)) ?_)|fail|(go_at_call 105;(with_reducible refine ch (hop _) H ?_);clear H;intro w H))
       have H2:=H.cutRow i_1 (m:=m) (by omega)
       go_roundw
       case rel=>exact⟨j+1,op.dropLast,by omega,by go_num,by rw[List.length_dropLast,HM.out];omega,G2,by
        rw[List.length_dropLast,HM.out];have e:(intsC op).take (m * 1)=intsC op.dropLast:=by
         rw[Nat.mul_one,List.dropLast_eq_take,HM.out];simp[intsC,List.map_take]
        rw[e]at H2
        exact H2⟩
       case measure=>simp[intOf];omega
     ·have d9:((d.kind:Int) == 9)=false:=by rw[beq_eq_false_iff_ne];omega
      cases ho:opensP d with
      | true =>
       have G2:=Lib.hid (show wrongP ws=wrongGo (bareAt ws (j+1)) (op++[d.place]) (ws.drop (j+1)) by rw[G.out,wrong_open HD.out ho])
       rw[ho]at hop;clear h9 h11 ho
       go_wp2_with (first|((with_reducible refine gL ?_);refine own_loadK wtd_ _ _ rfl rfl row_Word rfl (hcell _ (H.kn .zero)) ?_)|((with_reducible refine gL ?_);refine own_load1K wtd_ _ _ rfl rfl one_int (hkd _ (H.kn .zero)) ?_)|((with_reducible refine gL ?_);refine own_load1K wtd_ _ _ rfl rfl one_int (hpl _ (H.kn .zero)) ?_)|(at_builtin;refine own_append rfl _ _ 27 rfl H evd_ rfl atd_ atd_ Tryz.underlying27 hi0 hz0 hz1 hz2 rfl (by decide) rfl rfl (by unfold maxLen;omega) (by omega) ?_;clear H;intro v2 w H;try simp only[nr]at H)|((with_reducible show @wpList _ _ _ ({dst:=_,op:=Op.buildSlice _ _ _,type:=_,pos:=_,after:=_,guard:=_}::_) _ _);refine own_build wtd_ _ _ _ rfl H (#[.int .i64 (d.place:Int)]) 3 (by intro W;simp only[List.map_toArray,List.map_cons,List.map_nil];(try simp only[pe]);(try unfold setV);simp[go_sem]<;>rfl) ?_;clear H;intro b w H;try simp only[nr]at H)|fail|(go_at_call 105;(with_reducible refine ch (hop _) H ?_);clear H;intro w H))
       go_roundw
       case rel=>exact⟨j+1,op++[d.place],by omega,by go_num,by rw[List.length_append,HM.out,List.length_singleton];omega,G2,by
        rw[List.length_append,HM.out,List.length_singleton];have e:intsC op++[.int .i64 (d.place:Int)]=intsC (op++[d.place]):=by simp[intsC]
        rw[← e]
        exact H.take 2⟩
       case measure=>simp[intOf];omega
      | false =>
       have G2:=Lib.hid (show wrongP ws=wrongGo (bareAt ws (j+1)) op (ws.drop (j+1)) by rw[G.out,wrong_on HD.out (by omega) ho h9])
       rw[ho]at hop;clear h9 h11 ho
       go_wp2_with (first|((with_reducible refine gL ?_);refine own_loadK wtd_ _ _ rfl rfl row_Word rfl (hcell _ (H.kn .zero)) ?_)|((with_reducible refine gL ?_);refine own_load1K wtd_ _ _ rfl rfl one_int (hkd _ (H.kn .zero)) ?_)|((with_reducible refine gL ?_);refine own_load1K wtd_ _ _ rfl rfl one_int (hpl _ (H.kn .zero)) ?_)|fail|(go_at_call 105;(with_reducible refine ch (hop _) H ?_);clear H;intro w H))
       go_roundw
       case rel=>exact⟨j+1,op,by omega,by go_num,by rw[HM.out];omega,G2,by rw[HM.out];exact H⟩
       case measure=>simp[intOf];omega
  ·have dj:decide ((j:Int)<(n:Int))=false:=by simp;omega
   have E:=Lib.hid (show wrongP ws=op.getLast? by rw[G.out,wrong_end (by have:=HN.out;omega)])
   obtain⟨q,cap,rfl,hq1,hq2,hq3⟩:=H.rowShape i_1;unfold maxLen at hq2
   generalize hm:op.length=m at hol H hq1 hq3
   rcases m with _|m
   ·have E2:=Lib.hid (show placeI (wrongP ws) = -1 by rw[E.out,List.length_eq_zero_iff.1 hm];rfl)
    clear hm hp hq3
    go_wp2_with (first|fail)
    go_ret;exact⟨reti E2.out.symm,H.below⟩
   ·obtain⟨a,ha,hl⟩:=last_get (l:=op) (fun e=>by rw[e]at hm;simp at hm)
    have E2:=Lib.hid (show placeI (wrongP ws)=(a:Int) by rw[E.out,hl];rfl)
    rw[hm,Nat.add_sub_cancel]at ha;have HA:=Lib.hid (intsC_get ha);obtain⟨g,rfl⟩:=hq3 (by omega)
    have dm:decide ((0:Int)<(m:Int)+1)=true:=by rw[decide_eq_true_iff];omega
    clear hm hp hq3 ha hl
    go_wp2_with (first|((with_reducible refine gL ?_);refine own_load1K wtd_ _ _ rfl rfl one_int (H.row1 i_1 HA.out) ?_)|fail)
    go_ret;exact⟨reti E2.out.symm,H.below⟩
abbrev pC (p:Option Addr) (n c:Nat) (j g:Nat):Array Value:=#[.slice p n c,.int .i64 (j:Int),.int .i64 (g:Int)]
structure AltPre (pb:Nat) (U:TypeId) (FW:Nat→Prop) (p:Option Addr) (n c:Nat) (ws:List WordD) (j g:Nat) (w:World):Prop where
 cells:w.heap[pb]?=some (.cells (pC p n c j g) U (0,0))
 lt:∀ b,FW b→b<w.heap.size
 ne:¬ FW pb
 words:WKnows FW p n c ws w
 ok:∀ d ∈ ws,SetOk d.set
 len:n≤1000
 jn:j≤n
 gn:g≤j
def AltOut (pb:Nat) (U:TypeId) (p:Option Addr) (n c:Nat) (t:Tree) (j g:Nat) (w:World) (e:Ending) (w':World):Prop :=
 KeepBut (·=pb) w.heap.size w w'∧w'.heap[pb]?=some (.cells (pC p n c j g) U (0,0))∧TreeOut w (fun _=>False) t e w'
theorem chA {M:Nat→Prop} {P:Program} {f:FuncId} {args:Array Value} {w w0:World} {l:List Res} {pb:Nat} {U:TypeId} {p:Option Addr} {n c j g:Nat} {t:Tree} {R:Ending→World→Prop} (k:Calls P f args w (AltOut pb U p n c t j g w)) (H:HoldG M w0 w l) {i:Nat} {cs:Array Value} (hi:At l i (.blk pb cs U))
  (h:∀ q m F w',(∀ b,F b→w0.heap.size≤b)→HoldG M w0 w' (l.set i (.blk pb (pC p n c j g) U)++[.kn F (fun V=>ForestR V F q m t.kids)])→R (.returned (nodeV t.d (.slice q t.kids.length m))) w'):Calls P f args w R:=k.mono fun _ w' h'=>by
 obtain⟨hk,hb,q,m,F,rfl,hs,hF⟩:=h';exact h q m F w' (fun b hb=>by rcases(hF b hb).2 with h1|h1;exact Nat.le_trans H.keep.size h1;exact h1.elim) (H.learnBut hi hk hb Still.none hF (fun V hV=>hs.kept hV))
section
variable {M:Nat→Prop} {w0 w:World} {l:List Res}
theorem one_kid {V W:World} {F:Nat→Prop} {b:Nat} {t:Tree} {q:Option Addr} {m:Nat} {T:TypeId} (hb:W.heap[b]?=some (.cells (nodeC t.d (.slice q t.kids.length m)) T (0,0))) (hF:ForestR W F q m t.kids) (hV:∀ k,(k=b∨F k)→V.heap[k]?=W.heap[k]?):ForestR V (fun k=>k=b∨F k) (some ⟨b,0,none⟩) 1 [t]:=by
 refine .mk _ _ _ [(t,q,m)] ⟨_,1,rfl,by simp,by decide,(fun h=>by cases h),fun j r hj=>⟨b,0,rfl,.inl rfl,?_,fun k hk=>?_⟩⟩ (fun x hx=>?_) rfl
 ·match j,hj with
  | 0,hj=>simp at hj;subst hj;rfl
 ·match j,hj with
  | 0,hj =>
   simp only[List.map_cons,List.map_nil,List.getElem?_cons_zero,Option.some.injEq]at hj;subst hj;rw[cell_of_row V b _ _ T (0,0) ((hV b (.inl rfl)).trans hb)];simp
 ·rw[List.mem_singleton]at hx;subst hx;exact(hF.mono (fun _ h=>.inr h)).kept hV
theorem HoldG.freshB {pb b i:Nat} {cs ds:Array Value} {U T:TypeId} (H:HoldG (·=pb) w0 w (.blk pb cs U::l)) (hi:At l i (.blk b ds T)):w0.heap.size≤b:=by
 rcases(H.blk (.succ hi)).1 with h|h
 ·exact h
 ·exact(H.apart 0 (i+1) _ _ (by omega) rfl (At.get (.succ hi)) pb rfl (by rw[h];exact rfl)).elim
theorem HoldG.kid (H:HoldG M w0 w l) {i k b:Nat} {F:Nat→Prop} {t:Tree} {q:Option Addr} {m:Nat} {T:TypeId} (hi:At l i (.blk b (nodeC t.d (.slice q t.kids.length m)) T)) (hk:At l k (.kn F (fun V=>ForestR V F q m t.kids))) :
  HoldG M w0 w (l.set i (.kn (fun k=>some b=some k) (fun V=>V.heap[b]?=some (.cells (nodeC t.d (.slice q t.kids.length m)) T (0,0))))++[.kn (fun k=>k=b∨F k) (fun V=>ForestR V (fun k=>k=b∨F k) (some ⟨b,0,none⟩) 1 [t])]):=by
 have hb:=(H.blk hi).2;have H2:=H.rest hi (fun V=>V.heap[b]?=some (.cells (nodeC t.d (.slice q t.kids.length m)) T (0,0))) (fun V hV=>(hV b rfl).trans hb)
 refine H2.also _ _ (fun z hz=>?_) (fun V hV=>one_kid hb (H.kn hk) hV)
 have hil:i<l.length:=(List.getElem?_eq_some_iff.1 hi.get).1;have hne:i≠k:=fun e=>by subst e;have:=hi.get.symm.trans hk.get;cases this
 rcases hz with e|h
 ·exact⟨i,_,by rw[List.getElem?_set,if_pos rfl,if_pos hil],rfl,by rw[e];exact rfl⟩
 ·exact⟨k,.kn F (fun V=>ForestR V F q m t.kids),by rw[List.getElem?_set,if_neg hne];exact hk.get,rfl,h⟩
end
theorem ref_group (pb:Nat) (FW:Nat→Prop) (p:Option Addr) (n c:Nat) (ws:List WordD) (j g:Nat) (f:FlagsD) (d:WordD) (t:Tree) (j' g':Nat) (w0:World) (hP:AltPre pb 138 FW p n c ws j g w0) (hj':j'<n) (hg1:g+1≤j) (hg':g'≤j')
  (A:∀ w,AltPre pb 138 FW p n c ws j (if d.kind=7 then g else g+1) w→Calls Tryz.prog 64 #[.pointer (some ⟨pb,0,none⟩),flagsV (if d.kind=7 then turnP f d else f)] w (AltOut pb 138 p n c t j' g' w)) :
  Calls Tryz.prog 108 #[.pointer (some ⟨pb,0,none⟩),wordV d,flagsV f] w0 (AltOut pb 138 p n c (if d.kind=7 then t else groupT (g+1) t) (j'+1) g' w0):=by
 have H:=(HoldG.startB hP.cells).know FW (WKnows FW p n c ws) hP.lt (fun i r h b hb=>by
  match i,h with
  | 0,h=>cases h;cases hb;exact hP.ne) (fun V hV=>hP.words.kept hV)
 simp only[List.cons_append,List.nil_append]at H;have hlen:=hP.len;have hjn:=hP.jn;have hgn:=hP.gn;have hpre:∀ (g1:Nat) (w:World) (l:List Res),g1≤j→HoldG (·=pb) w0 w (.blk pb (pC p n c j g1) 138::.kn FW (WKnows FW p n c ws)::l)→AltPre pb 138 FW p n c ws j g1 w:=fun g1 w l h1 h=>⟨(h.blk .zero).2,h.knlt i_1,hP.ne,h.kn i_1,hP.ok,hP.len,hP.jn,h1⟩
 have hpre1:∀ (w:World) (l:List Res),HoldG (·=pb) w0 w (.blk pb #[.slice p n c,.int .i64 (j:Int),.int .i64 ((g:Int)+1)] 138::.kn FW (WKnows FW p n c ws)::l)→AltPre pb 138 FW p n c ws j (g+1) w:=fun w l h=>hpre (g+1) w l hg1 h
 by_cases h7:d.kind=7
 ·have d7:((d.kind:Int) == 7)=true:=by rw[beq_iff_eq];omega
  simp only[h7,if_true]at A ⊢;have htu:=fun w=>ref_turned f d w
  clear h7
  go_enter Tryz.func108,Tryz.ntmps108
  go_wp2_with (first|(first|((with_reducible refine gT ?_);((first|refine aO H ?_|refine aT H ?_);clear H;intro w H;try simp only[nr]at H))|((with_reducible refine gL ?_);(first|refine aG H ?_|refine aD H ?_))|((with_reducible refine gX ?_);(refine bB H ?_;clear H;intro b w H;try simp only[nr]at H))|((with_reducible refine gA ?_);(refine bA H ?_;clear H;intro b w H;try simp only[nr]at H)))|(go_at_call 106;(with_reducible refine ch (htu _) H ?_);clear H;intro w H)|(go_at_call 64;(with_reducible refine chA (A _ (hpre g _ _ (by omega) H)) H .zero ?_);clear H;intro q m F w hF H))
  (refine ret_c Tryz.results108 rfl H atd_ (by first|(with_reducible exact row_Node)|(with_reducible exact row_Set)|(with_reducible exact row_Flags)|(with_reducible exact row_Word)) (by rfl) rfl ?_)
  exact⟨H.keep,(H.blk .zero).2,q,m,F,rfl,H.kn (i:=5) i_5,fun b h=>⟨H.knlt i_5 b h,.inl (hF b h)⟩⟩
 ·have d7:((d.kind:Int) == 7)=false:=by rw[beq_eq_false_iff_ne];omega
  simp only[h7,if_false]at A ⊢;clear h7
  go_enter Tryz.func108,Tryz.ntmps108
  go_upto_region 8 with (first|(first|((with_reducible refine gT ?_);((first|refine aO H ?_|refine aT H ?_);clear H;intro w H;try simp only[nr]at H))|((with_reducible refine gL ?_);(first|refine aG H ?_|refine aD H ?_))|((with_reducible refine gX ?_);(refine bB H ?_;clear H;intro b w H;try simp only[nr]at H))|((with_reducible refine gA ?_);(refine bA H ?_;clear H;intro b w H;try simp only[nr]at H)))|(go_at_call 64;(with_reducible refine chA (A _ (hpre1 _ _ H)) H .zero ?_);clear H;intro q m F w hF H))
  go_wp2_with (first|((with_reducible show @wpList _ _ _ ({dst:=_,op:=Op.buildSlice _ _ _,type:=_,pos:=_,after:=_,guard:=_}::_) _ _);refine own_build wtd_ _ _ _ rfl H (nodeC (t.d) (.slice q t.kids.length m)) 87 (by intro W;simp only[List.map_toArray,List.map_cons,List.map_nil];(try simp only[pe]);exact run_kid1 _ _ W) ?_;clear H;intro bk w H;try simp only[nr]at H)|(first|((with_reducible refine gT ?_);((first|refine aO H ?_|refine aT H ?_);clear H;intro w H;try simp only[nr]at H))|((with_reducible refine gL ?_);(first|refine aG H ?_|refine aD H ?_))|((with_reducible refine gZ ?_);refine nbG ?_)))
  (refine ret_c Tryz.results108 rfl H atd_ (by first|(with_reducible exact row_Node)|(with_reducible exact row_Set)|(with_reducible exact row_Flags)|(with_reducible exact row_Word)) (by rfl) rfl ?_)
  have hkk:w0.heap.size≤bk:=H.freshB (i:=6) i_6;have H2:=H.kid (i:=7) (k:=5) i_7 i_5;exact⟨H.keep,(H.blk .zero).2,some ⟨bk,0,none⟩,1,_,rfl,(H2.all 8 _ rfl).2 w (fun _ _=>rfl),fun b h=>⟨(H2.all 8 _ rfl).1 b h,.inl (h.elim (fun e=>e ▸ hkk) (hF b))⟩⟩
end Go.Proofs.YtdoflhjhaciepaaGreat
namespace Go.Proofs.YtdoflhjhaciepaaGreat
open Go.RowKit
def FreshB (n0:Nat) (cs:Array Value) (T:TypeId) (v:Value) (W:World):Prop:=∃ b,v=.pointer (some ⟨b,0,none⟩)∧n0≤b∧W.heap[b]?=some (.cells cs T (0,0))
theorem stable_fresh (n0:Nat) (cs:Array Value) (T:TypeId):Stable (FreshB n0 cs T):=fun v w w' ⟨b,e,h1,h2⟩ hb=>⟨b,e,h1,(hb.block b (Array.getElem?_eq_some_iff.1 h2).1).trans h2⟩
theorem rs_fresh {P:Program} {ops:Array Oper} {o:Oper} {a:Act} {w:World} {n0:Nat} {T:TypeId} {cs:Array Value} {D:Prop} (hg:Region.wanted o (yielded ops a.tmps)=true) (hop:o.op=Op.alloc T) (hi:((P.info? T).bind (·.zero)).isSome=true) (hz:zeroC P T=cs) (hn:n0≤w.heap.size) (hD:¬ D:=by decide) :
  RStep P ops o a w (fun v w'=>FreshB n0 cs T v w'∧(D→w.heap.size≤blk v)):=by
 subst hz
 cases hi1:P.info? T with
 | none=>simp[hi1]at hi
 | some i0 =>
  cases hz:i0.zero with
  | none=>simp[hi1,hz]at hi
  | some z =>
   have hzc:zeroC P T=z.cells:=by simp[zeroC,hi1,hz]
   refine rs_val hg (v:=.pointer (some ⟨w.heap.size,0,none⟩)) (w':=w.alloc (.cells (zeroC P T) T)) ?_ ((Below.refl _ w).alloc (Nat.le_refl _) _) ⟨⟨w.heap.size,rfl,hn,World.alloc_heap_new w _⟩,fun h=>(hD h).elim⟩
   rw[hzc];simp[execOp,hop,Instr.alloc,zeroValue,typeInfo,hi1,hz,newVar,newRow]
theorem HoldG.gainB {M:Nat→Prop} {w0 w w':World} {l:List Res} (H:HoldG M w0 w l) (hb:Below w.heap.size w w') {cs:Array Value} {T:TypeId} {v:Value} (h:FreshB w.heap.size cs T v w'):∃ b,v=.pointer (some ⟨b,0,none⟩)∧HoldG M w0 w' (l++[.blk b cs T]):=by
 obtain⟨b,e,h1,h2⟩:=h;refine⟨b,e,(H.call hb).keep,?_,?_⟩
 ·intro j s hs;rw[List.getElem?_append]at hs;split at hs
  ·exact(H.call hb).all j s hs
  ·rcases List.getElem?_eq_some_iff.1 hs with ⟨h3,h4⟩
   simp at h3;simp[h3]at h4;subst h4;exact⟨.inl (Nat.le_trans H.keep.size h1),h2⟩
 ·intro j k s t hjk hs ht;rw[List.getElem?_append]at hs ht;split at hs
  ·split at ht
   ·exact H.apart j k s t hjk hs ht
   ·rcases List.getElem?_eq_some_iff.1 ht with ⟨h3,h4⟩
    simp at h3;simp[h3]at h4;subst h4;intro z hz1 hz2;have:=((H.all j s hs).lt z hz1).2;have e:some b=some z:=hz2
    cases e;omega
  ·rcases List.getElem?_eq_some_iff.1 hs with ⟨h3,h4⟩
   simp at h3;simp[h3]at h4;subst h4;split at ht
   ·intro z hz1 hz2;have:=(H.all k t ht).ltf z hz2
    cases hz1;omega
   ·rcases List.getElem?_eq_some_iff.1 ht with ⟨h5,h6⟩
    simp at h5;omega
end Go.Proofs.YtdoflhjhaciepaaGreat
namespace Go.Proofs.YtdoflhjhaciepaaGreat
open Go.RowKit Go.Shelf
attribute [local go_sem] Oper.semAt_some
theorem altsP_facts:∀ (m:Nat) (f:FlagsD) (r:List WordD) (g:Nat) (all items:List Tree) (t:Tree) (r':List WordD) (g':Nat),altsP m f r g all items=some (t,r',g')→r' <:+ r∧g'+r'.length≤g+r.length
 | 0,f,r,g,all,items,t,r',g',h=>by simp[altsP]at h
 | m+1,f,[],g,all,items,t,r',g',h=>by
  simp only[altsP,Option.some.injEq,Prod.mk.injEq]at h;obtain⟨_,rfl,rfl⟩:=h;exact⟨List.suffix_refl _,by simp⟩
 | m+1,f,w::r,g,all,items,t,r',g',h=>by
  have IH:=altsP_facts m;have hs:r <:+ w::r:=List.suffix_cons w r;have step:∀ {f g2 all items},g2≤g+1→altsP m f r g2 all items=some (t,r',g')→r' <:+ w::r∧g'+r'.length≤g+(w::r).length:=fun hg e=>by
   have:=IH _ _ _ _ _ _ _ _ e;exact⟨this.1.trans hs,by have:=this.2;simp only[List.length_cons];omega⟩
  unfold altsP at h;split at h
  ·simp only[Option.some.injEq,Prod.mk.injEq]at h;obtain⟨_,rfl,rfl⟩:=h;exact⟨List.suffix_refl _,by omega⟩
  split at h
  ·exact step (by omega) h
  split at h
  ·exact step (by omega) h
  split at h
  ·split at h
   ·cases h
   ·exact step (by omega) h
  split at h
  ·split at h
   ·rename_i t1 d1 r1 g1 h1;have a:=IH _ _ _ _ _ _ _ _ h1;have b:=IH _ _ _ _ _ _ _ _ h;refine⟨(b.1.trans (List.suffix_cons d1 r1)).trans (a.1.trans hs),?_⟩
    have:=a.2;have:=b.2;simp only[List.length_cons]at *;omega
   ·cases h
  split at h
  ·split at h
   ·rename_i t1 d1 r1 g1 h1;have a:=IH _ _ _ _ _ _ _ _ h1;have b:=IH _ _ _ _ _ _ _ _ h;refine⟨(b.1.trans (List.suffix_cons d1 r1)).trans (a.1.trans hs),?_⟩
    have:=a.2;have:=b.2;simp only[List.length_cons]at *;omega
   ·cases h
  ·exact step (by omega) h
theorem info_Node:(Tryz.prog.info? 87).map (fun i=>(i.zero,i.size,i.bytes))=some (some (.agg (nodeC {kind:=0} nilS)),10,96):=by kernel_rfl
section
variable {M:Nat→Prop} {w0 w:World} {l:List Res}
theorem HoldG.rowForest (H:HoldG M w0 w l) {i N cap:Nat} {q:Option Addr} {T:TypeId} {xs:List TV} {K:Nat→Prop} (hi:At l i (.row (.slice q N cap) T 10 N (flatR (xs.map nodeX)))) (hN:xs.length=N) (hK:Still l K) (hL:ListR w K xs) :
  ∃ G:Nat→Prop,(∀ b,G b→w0.heap.size≤b∨K b)∧HoldG M w0 w (l.set i (.kn G (fun V=>ForestR V G q cap (xs.map (·.1))))):=by
 have ho:=H.all i _ hi.get;have hrd:∀ V:World,(∀ b,(Value.slice q N cap).ownBlock=some b→V.heap[b]?=w.heap[b]?)→RdN 10 V (fun b=>(Value.slice q N cap).ownBlock=some b) (.slice q N cap) (xs.map nodeX):=fun V hV=>RdN.of_own ho (nodesX_size xs) (by rw[List.length_map];exact hN) hV
 refine⟨fun b=>(Value.slice q N cap).ownBlock=some b∨K b,fun b hb=>hb.imp (fun hb=>?_) id,H.restG hi _ _ (fun b hb=>hb.imp id (hK b)) (fun V hV=>.mk _ _ _ xs (by rw[List.length_map,hN];exact(hrd V (fun b hb=>hV b (.inl hb))).mono (fun _ h=>.inl h)) (fun x hx=>((hL x hx).mono (fun _ h=>.inr h)).kept hV) rfl)⟩
 obtain⟨_,⟨hv,_⟩|⟨g,cap',cur,hv,hg,_⟩⟩:=ho
 ·cases hv;cases hb
 ·cases hv;cases hb;exact hg
theorem HoldG.rowForest1 (H:HoldG M w0 w l) {i k k2:Nat} {v:Value} {T:TypeId} {xs ys:List TV} {F F2:Nat→Prop} {t:Tree} {q2:Option Addr} {c2:Nat} (hi:At l i (.row v T 10 (xs.length+1) (flatR (xs.map nodeX)++(nodeC t.d (.slice q2 t.kids.length c2)).toList))) (hk:At l k (.kn F (fun V=>ListR V F ys))) (hsub:∀ x ∈ xs,x ∈ ys)
  (hk2:At l k2 (.kn F2 (fun V=>ForestR V F2 q2 c2 t.kids))):∃ (q:Option Addr) (cap:Nat) (G:Nat→Prop),v=.slice q (xs.length+1) cap∧(∀ b,G b→w0.heap.size≤b∨F b∨F2 b)∧HoldG M w0 w (l.set i (.kn G (fun V=>ForestR V G q cap (xs.map (·.1)++[t])))):=by
 obtain⟨q,cap,rfl,_,_,_⟩:=H.rowShape hi;have e:flatR (xs.map nodeX)++(nodeC t.d (.slice q2 t.kids.length c2)).toList=flatR ((xs++[((t,q2,c2):TV)]).map nodeX):=by rw[List.map_append,flatR_append];simp[flatR]
 rw[e]at hi;obtain⟨G,hG,H2⟩:=H.rowForest (K:=fun b=>F b∨F2 b) hi (by simp) ((Still.at hk).or (Still.at hk2)) (ListR.append (fun x hx=>(H.kn hk x (hsub x hx)).mono (fun _ h=>.inl h)) (ListR.one ((H.kn hk2).mono (fun _ h=>.inr h))))
 refine⟨q,cap,G,rfl,hG,?_⟩
 simpa using H2
theorem HoldG.rowGrown (H:HoldG M w0 w l) {i k k2:Nat} {v:Value} {T:TypeId} {xs ys:List TV} {F F2:Nat→Prop} {t:Tree} {q2:Option Addr} {c2:Nat} (hi:At l i (.row v T 10 (xs.length+1) (flatR (xs.map nodeX)++(nodeC t.d (.slice q2 t.kids.length c2)).toList))) (hk:At l k (.kn F (fun V=>ListR V F ys)))
  (hk2:At l k2 (.kn F2 (fun V=>ForestR V F2 q2 c2 t.kids))) (zs:List TV) (hsub:∀ x ∈ zs,x ∈ ys∨x=(t,q2,c2)):HoldG M w0 w (l.set i (.row v T 10 (xs++[((t,q2,c2):TV)]).length (flatR ((xs++[((t,q2,c2):TV)]).map nodeX)))++[.kn (fun b=>F b∨F2 b) (fun V=>ListR V (fun b=>F b∨F2 b) zs)]):=by
 have e:flatR (xs.map nodeX)++(nodeC t.d (.slice q2 t.kids.length c2)).toList=flatR ((xs++[((t,q2,c2):TV)]).map nodeX):=by rw[List.map_append,flatR_append];simp[flatR]
 have el:xs.length+1=(xs++[((t,q2,c2):TV)]).length:=by simp
 rw[e,el]at hi;have hs:l.set i (.row v T 10 (xs++[((t,q2,c2):TV)]).length (flatR ((xs++[((t,q2,c2):TV)]).map nodeX)))=l:=by
  apply List.ext_getElem?;intro j;rw[List.getElem?_set];split
  ·rename_i e;subst e;have:=hi.get;rw[if_pos (List.getElem?_eq_some_iff.1 this).1,this]
  ·rfl
 rw[hs];refine H.also _ _ ((Still.at hk).or (Still.at hk2)) (fun V hV x hx=>?_)
 rcases hsub x hx with h|rfl
 ·exact((H.kn hk x h).mono (fun _ h=>.inl h)).kept hV
 ·exact((H.kn hk2).mono (fun _ h=>.inr h)).kept hV
end
section
variable {m:Nat} {f:FlagsD} {w:WordD} {r:List WordD} {g:Nat} {all items:List Tree}
theorem alts_nil:altsP (m+1) f [] g all items=some (rowT 5 (all++[rowT 4 items]),[],g):=by simp only[altsP]
theorem alts_9 (h:w.kind=9):altsP (m+1) f (w::r) g all items=some (rowT 5 (all++[rowT 4 items]),w::r,g):=by simp only[altsP,h,if_true]
theorem alts_8 (h:w.kind=8):altsP (m+1) f (w::r) g all items=altsP m (turnP f w) r g all items:=by simp[altsP,h]
theorem alts_10 (h:w.kind=10):altsP (m+1) f (w::r) g all items=altsP m f r g (all++[rowT 4 items]) []:=by simp[altsP,h]
theorem alts_11 (h:w.kind=11):altsP (m+1) f (w::r) g all items=match items.getLast? with|none=>none|some last=>altsP m f r g all (items.dropLast++[repT w last]):=by simp[altsP,h];rfl
theorem alts_7 (h:w.kind=7):altsP (m+1) f (w::r) g all items=match altsP m (turnP f w) r g [] [] with|some (t,_::r',g')=>altsP m f r' g' all (items++[t])|_=>none:=by simp[altsP,h];rfl
theorem alts_6 (h:w.kind=6):altsP (m+1) f (w::r) g all items=match altsP m f r (g+1) [] [] with|some (t,_::r',g')=>altsP m f r' g' all (items++[groupT (g+1) t])|_=>none:=by simp[altsP,h];rfl
theorem alts_at (h9:w.kind≠9) (h8:w.kind≠8) (h10:w.kind≠10) (h11:w.kind≠11) (h7:w.kind≠7) (h6:w.kind≠6):altsP (m+1) f (w::r) g all items=altsP m f r g all (items++[atomP w f]):=by simp[altsP, *]
end
def posM (pb n:Nat) (w:World):Nat:=match w.cell? ⟨pb,1,none⟩ with|some (.int _ z)=>n+1 - z.toNat|_=>0
theorem posM_of {pb n:Nat} {w:World} {k:IntKind} {z:Int} (h:w.cell? ⟨pb,1,none⟩=some (.int k z)):posM pb n w=n+1 - z.toNat:=by unfold posM;rw[h]
theorem atomP_kids (d:WordD) (f:FlagsD):(atomP d f).kids=[]:=by
 unfold atomP setT spotT leafT
 repeat' split
 all_goals first|rfl|(dsimp only;repeat' split)<;>rfl
theorem alts_open {m:Nat} {f:FlagsD} {w:WordD} {r:List WordD} {g:Nat} {all items:List Tree} {t:Tree} {r':List WordD} {g':Nat} (h:opensP w=true) (e:altsP (m+1) f (w::r) g all items=some (t,r',g')) :
  ∃ t1 d1 r1 g1,altsP m (if w.kind=7 then turnP f w else f) r (if w.kind=7 then g else g+1) [] []=some (t1,d1::r1,g1)∧altsP m f r1 g1 all (items++[if w.kind=7 then t1 else groupT (g+1) t1])=some (t,r',g'):=by
 have hk:w.kind=6∨w.kind=7:=by simpa [opensP] using h
 by_cases h7:w.kind=7
 ·rw[alts_7 h7]at e;simp only[h7,if_true];split at e
  ·rename_i t1 d1 r1 g1 h1;exact⟨t1,d1,r1,g1,h1,e⟩
  ·cases e
 ·rw[alts_6 (by omega)]at e
  simp only[h7,if_false];split at e
  ·rename_i t1 d1 r1 g1 h1;exact⟨t1,d1,r1,g1,h1,e⟩
  ·cases e
theorem alts_last {m:Nat} {f:FlagsD} {w:WordD} {r:List WordD} {g:Nat} {all:List Tree} {xs:List TV} {t:Tree} {r':List WordD} {g':Nat} (h:w.kind=11) (e:altsP (m+1) f (w::r) g all (xs.map (·.1))=some (t,r',g')) :
  ∃ ys x,xs=ys++[x]∧altsP m f r g all (ys.map (·.1)++[repT w x.1])=some (t,r',g'):=by
 rw[alts_11 h]at e;rcases List.eq_nil_or_concat xs with rfl|⟨ys,x,rfl⟩
 ·simp at e
 ·refine⟨ys,x,by simp,?_⟩
  simpa using e
theorem drop_suffix {α:Type} {ws r:List α} {n:Nat} (hn:n=ws.length) (h:r <:+ ws):ws.drop (n - r.length)=r:=by
 subst hn;exact(List.suffix_iff_eq_drop.1 h).symm
theorem set_last {ys:List TV} {x x':TV} {c:Array Value} (h:nodeX x'=c):((ys++[x]).map nodeX).set ys.length c=(ys++[x']).map nodeX:=by
 subst h;have:(ys.map nodeX).length=ys.length:=List.length_map ..;rw[List.map_append,List.map_append,List.set_append,if_neg (by omega),this,Nat.sub_self];rfl
end Go.Proofs.YtdoflhjhaciepaaGreat
namespace Go.Proofs.YtdoflhjhaciepaaGreat
open Go.RowKit
def nodeOk1 (d:NodeD) (k:Nat):Bool :=
 if d.kind=3 then !eqS d.set emptyS&&((k:Int) == 0)&&!(d.group != 0)
  else if d.kind=4∨d.kind=5 then decide (1<(k:Int))&&!(!eqS d.set emptyS)&&!(d.group != 0)
  else if d.kind=6 then ((k:Int) == 1)&&!(!eqS d.set emptyS)&&!(d.group != 0)&&decide (0≤d.lo)&&decide (d.lo≤100)&&(d.hi == -1 || decide (d.lo≤d.hi)&&decide (d.hi≤100))
  else if d.kind=7 then ((k:Int) == 1)&&!(!eqS d.set emptyS)&&decide (0<d.group)&&decide (d.group≤20)
  else decide (1≤d.kind)&&decide (d.kind≤13)&&((k:Int) == 0)&&!(!eqS d.set emptyS)&&!(d.group != 0)
def nodeOk2 (d:NodeD):Bool:=!((d.kind != 6)&&((d.lo != 0) || (d.hi != 0) || d.lazy))
def nodeOk (d:NodeD) (k:Nat):Bool:=nodeOk1 d k&&nodeOk2 d
mutual
def kindsT:Tree→Bool
 | .mk d ks=>nodeOk d ks.length&&kindsTs ks
def kindsTs:List Tree→Bool
 | []=>true
 | t::r=>kindsT t&&kindsTs r
end
theorem kindsT_eq (t:Tree):kindsT t=(nodeOk t.d t.kids.length&&kindsTs t.kids):=by cases t;simp[kindsT,Tree.kids,Tree.d]
theorem kindsTs_get:∀ {ts:List Tree} {i:Nat} {t:Tree},kindsTs ts=true→ts[i]?=some t→kindsT t=true
 | [],_,_,_,h=>by simp at h
 | t::r,0,u,h,hi=>by simp only[kindsTs,Bool.and_eq_true]at h;simp at hi;subst hi;exact h.1
 | t::r,i+1,u,h,hi=>by simp only[kindsTs,Bool.and_eq_true]at h;exact kindsTs_get h.2 (by simpa using hi)
theorem kindsTs_append:∀ (a b:List Tree),kindsTs (a++b)=(kindsTs a&&kindsTs b)
 | [],b=>by simp[kindsTs]
 | t::r,b=>by simp only[List.cons_append,kindsTs];rw[kindsTs_append r b,Bool.and_assoc]
theorem kindsTs_take {ts:List Tree} {i:Nat} {t:Tree} (h:ts[i]?=some t):kindsTs (ts.take (i+1))=(kindsTs (ts.take i)&&kindsT t):=by
 rw[take_get h,kindsTs_append];simp[kindsTs]
theorem kindsTs_stop {ts:List Tree} {i:Nat} {t:Tree} (h:ts[i]?=some t) (hf:kindsT t=false):kindsTs ts=false:=by
 have:kindsTs ts=(kindsTs (ts.take (i+1))&&kindsTs (ts.drop (i+1))):=by rw[← kindsTs_append,List.take_append_drop]
 rw[this,kindsTs_take h,hf];simp
def flat1 (i o:Int) (t:Tree):List Tree:=if t.d.kind=i then t.kids else if t.d.kind=o then [] else [t]
def flatT (ts:List Tree) (i o:Int):List Tree:=ts.flatMap (flat1 i o)
def rowN (k:Int) (ts:List Tree) (none_:Tree):Tree:=match ts with
 | []=>none_
 | [t]=>t
 | _=>.mk {kind:=k} ts
def catT (ts:List Tree):Tree:=if ts.any (fun t=>t.d.kind == 2) then leafT 2 else rowN 4 (flatT ts 4 1) (leafT 1)
def againT (n:NodeD) (k:Tree) (most:Int):Tree:=.mk {kind:=6,hi:=most,lazy:=n.lazy} [k]
def restT (n:NodeD) (k:Tree):Nat→List Tree
 | 0=>[]
 | m+1=>[againT n (catT (k::restT n k m)) 1]
def repeatT (n:NodeD) (k:Tree):Option Tree :=
 if n.hi=0∨k.d.kind=1∨k.d.kind=2∧n.lo=0 then some (leafT 1)
 else if k.d.kind=2 then some (leafT 2)
 else if 4000<(sizeT k:Int) * max (max n.lo n.hi) 1 then none
 else some (catT (List.replicate n.lo.toNat k++if n.hi<0 then [againT n k (-1)] else restT n k (n.hi - n.lo).toNat))
def ruleT (d:NodeD) (t:Tree) (l:List Tree):Option Tree :=
 if d.kind=7 then (match l with|[]=>none|k::_=>if k.d.kind=2 then some (leafT 2) else some (.mk d l))
 else if d.kind=4 then some (catT l)
 else if d.kind=5 then some (rowN 5 (flatT l 5 2) (leafT 2))
 else if d.kind=6 then (match l with|[]=>none|k::_=>repeatT d k)
 else some t
def capT (o:Option Tree):Option Tree:=match o with|some t=>if sizeT t≤2000 then some t else none|none=>none
mutual
def simpleT:Tree→Option Tree
 | .mk d ks=>match simpleTs ks with|none=>none|some l=>capT (ruleT d (.mk d ks) l)
def simpleTs:List Tree→Option (List Tree)
 | []=>some []
 | t::r=>match simpleT t with|none=>none|some x=>match simpleTs r with|none=>none|some l=>some (x::l)
end
def simpleP (t:Tree):Except Nat Tree:=if kindsT t=true∧sizeT t≤2000 then (match simpleT t with|none=>.error 7|some s=>.ok s) else .error 2
theorem flatT_snoc (ts:List Tree) (t:Tree) (i o:Int):flatT (ts++[t]) i o=flatT ts i o++flat1 i o t:=by simp[flatT]
theorem flatT_take {ts:List Tree} {j:Nat} {t:Tree} (h:ts[j]?=some t) (i o:Int):flatT (ts.take (j+1)) i o=flatT (ts.take j) i o++flat1 i o t:=by rw[take_get h,flatT_snoc]
theorem size_flat1 (i o:Int) (t:Tree):sizeTs (flat1 i o t)≤sizeT t:=by
 unfold flat1;split
 ·rw[sizeT_eq t];omega
 split
 ·simp[sizeTs]
 ·rw[sizeTs_one];exact Nat.le_refl _
theorem size_flatT:∀ (ts:List Tree) (i o:Int),sizeTs (flatT ts i o)≤sizeTs ts
 | [],_,_=>by simp[flatT]
 | t::r,i,o=>by
  have:=size_flatT r i o;have:=size_flat1 i o t;simp only[flatT,List.flatMap_cons]at *;rw[sizeTs_append];simp only[sizeTs];omega
theorem size_rowN (k:Int) (ts:List Tree) (d:Tree) (hd:sizeT d=1):sizeT (rowN k ts d)≤1+sizeTs ts:=by
 unfold rowN;split
 ·omega
 ·rw[sizeTs_one];omega
 ·simp[sizeT]
theorem size_leaf (k:Int):sizeT (leafT k)=1:=by simp[leafT,sizeT,sizeTs]
theorem size_catT (ts:List Tree):sizeT (catT ts)≤1+sizeTs ts:=by
 unfold catT;split
 ·rw[size_leaf];omega
 ·have:=size_rowN 4 (flatT ts 4 1) (leafT 1) (size_leaf 1);have:=size_flatT ts 4 1;omega
theorem size_again (n:NodeD) (k:Tree) (m:Int):sizeT (againT n k m)=1+sizeT k:=by simp[againT,sizeT,sizeTs]
theorem size_rest (n:NodeD) (k:Tree):∀ m:Nat,sizeTs (restT n k m)≤m * (sizeT k+2)
 | 0=>by simp[restT,sizeTs]
 | m+1=>by
  have ih:=size_rest n k m;simp only[restT];rw[sizeTs_one,size_again];have:=size_catT (k::restT n k m);simp only[sizeTs]at this;rw[Nat.succ_mul];omega
theorem len_rest (n:NodeD) (k:Tree) (m:Nat):(restT n k m).length≤1:=by cases m<;>simp[restT]
theorem simpleTs_snoc:∀ (a:List Tree) (t:Tree) {l:List Tree} {x:Tree},simpleTs a=some l→simpleT t=some x→simpleTs (a++[t])=some (l++[x])
 | [],t,l,x,h,hx=>by
  simp only[simpleTs,Option.some.injEq]at h;subst h;simp[simpleTs,hx]
 | u::r,t,l,x,h,hx=>by
  simp only[simpleTs]at h
  cases hu:simpleT u with
  | none=>rw[hu]at h;cases h
  | some y =>
   rw[hu]at h
   cases hr:simpleTs r with
   | none=>rw[hr]at h;cases h
   | some l' =>
    rw[hr]at h;simp only[Option.some.injEq]at h;subst h;simp only[List.cons_append,simpleTs,hu,simpleTs_snoc r t hr hx]
theorem simpleTs_stop:∀ {ts:List Tree} {i:Nat} {t:Tree},ts[i]?=some t→simpleT t=none→simpleTs ts=none
 | [],_,_,h,_=>by simp at h
 | u::r,0,t,h,hn=>by simp at h;subst h;simp[simpleTs,hn]
 | u::r,i+1,t,h,hn=>by
  simp only[simpleTs];rw[simpleTs_stop (ts:=r) (i:=i) (by simpa using h) hn]
  cases simpleT u<;>rfl
theorem simpleTs_len:∀ {ts l:List Tree},simpleTs ts=some l→l.length=ts.length
 | [],l,h=>by simp[simpleTs]at h;subst h;rfl
 | u::r,l,h=>by
  simp only[simpleTs]at h;split at h
  ·cases h
  ·split at h
   ·cases h
   ·rename_i l' hl
    cases h
    simp[simpleTs_len hl]
theorem capT_le {o:Option Tree} {t:Tree} (h:capT o=some t):sizeT t≤2000:=by
 unfold capT at h;split at h
 ·split at h
  ·cases h;assumption
  ·cases h
 ·cases h
theorem simpleT_le {t s:Tree} (h:simpleT t=some s):sizeT s≤2000:=by
 cases t with
 | mk d ks =>
  simp only[simpleT]at h;split at h
  ·cases h
  ·exact capT_le h
theorem simpleTs_size:∀ {ts l:List Tree},simpleTs ts=some l→sizeTs l≤2000 * ts.length
 | [],l,h=>by simp[simpleTs]at h;subst h;simp[sizeTs]
 | u::r,l,h=>by
  simp only[simpleTs]at h;split at h
  ·cases h
  ·rename_i x hx;split at h
   ·cases h
   ·rename_i l' hl
    cases h
    have:=simpleTs_size hl;have:=simpleT_le hx;simp only[sizeTs,List.length_cons];omega
end Go.Proofs.YtdoflhjhaciepaaGreat
namespace Go.Proofs.YtdoflhjhaciepaaGreat
open Go.RowKit Go.Shelf
attribute [local go_sem] Oper.semAt_some
section
variable {P:Program} {ops:Array Oper} {rest:List Oper} {o:Oper} {a:Act} {w w0:World} {Q:Exit→Act→World→Prop} {l:List Res} {M:Nat→Prop}
theorem own_appendK (hg:o.guard=none) (s x:Operand) (T:TypeId) (ho:o.op=.call {callee:=.builtin .append,args:=#[s,x],argTypes:=#[T,T]}) (H:HoldG M w0 w l) {i:Nat} {v:Value} {e:TypeId} {sz n m c:Nat} {q:Option Addr} {xs:List Value} {F:Nat→Prop} {rows:List (Array Value)}
  (hs:a.eval s=v) (hx:a.eval x=.slice q m c) (hi:At l i (.row v e sz n xs)) (hR:RdN sz w F (.slice q m c) rows) (hrs:∀ r ∈ rows,r.size=sz) {it:TypeInfo} {z:Value} {bytes:Nat}
  (h1:P.underlying T=some (.slice e)) (h2:P.info? e=some it) (h3:it.zero=some z) (h4:it.size=sz) (h5:it.bytes=bytes) (h6:z.cells.size=sz) (h7:0<sz) (h1c:∀ u ∈ flatR rows,u.oneCell'=true)
  (b1:n+m≤maxLen) (b2:(n+m) * bytes≤140737488355328)
  (h:∀ v' w',HoldG M w0 w' (l.set i (.row v' e sz (n+m) (xs++flatR rows)))→wpList P ops Q rest (a.put o.dst v') w'):wpList P ops Q (o::rest) a w:=by
 obtain⟨p,cap,e1,r1,r2,r0,r3⟩:=hR
 cases e1
 have key:∀ ad:Addr,q=some ad→(∀ j u,(flatR rows)[j]?=some u→w.cell? (ad.add j)=some u)→wpList P ops Q (o::rest) a w:=fun ad hq hc=>by
  subst hq;refine wpList_append_own_at w hg s x T ho w0.heap.size e it z sz bytes h1 h2 h3 h4 h5 h6 h7 v n xs hs (H.all i _ hi.get) ad rows.length c (flatR rows) hx (flatR_len hrs) hc h1c b1 b2 H.keep.size (fun v' w' r1 r2 _ r4=>h v' w' ?_)
  refine H.upd hi.get (by exact r2) r1 (fun b' hb'=>?_)
  rcases r4 with r4|r4
  ·left;show v.ownBlock=some b';rw[← r4];exact hb'
  ·right;have:v'.ownBlock=some b':=hb';rw[r4]at this
   cases this;exact Nat.le_refl _
 cases rows with
 | nil =>
  cases q with
  | none =>
   have hc0:=r0 rfl;subst hc0;refine wpList_append_own_none hg s x T ho w0.heap.size e it sz h1 h2 v n xs hs (H.all i _ hi.get) hx ?_
   have hset:l.set i (.row v e sz (n+0) (xs++flatR []))=l:=by
    apply List.ext_getElem?;intro j;rw[List.getElem?_set];split
    ·rename_i e;subst e;have:=hi.get;rw[if_pos (List.getElem?_eq_some_iff.1 this).1,this];simp[flatR]
    ·rfl
   have:=h v w (by rw[show (List.length ([]:List (Array Value)))=0 from rfl,hset];exact H)
   exact this
  | some ad=>exact key ad rfl (fun j u hj=>by simp[flatR]at hj)
 | cons r rows =>
  obtain⟨b,off,hq,hF,_,_⟩:=r3 0 r rfl;refine key _ hq (fun j u hj=>?_)
  have hlen:(flatR (r::rows)).length=(r::rows).length * sz:=flatR_len hrs;have hjl:=(List.getElem?_eq_some_iff.1 hj).1;have hd:j=j / sz * sz+j % sz:=by rw[Nat.mul_comm];exact(Nat.div_add_mod j sz).symm
  have hm:j % sz<sz:=Nat.mod_lt _ h7;have hqq:j / sz<(r::rows).length:=Nat.div_lt_of_lt_mul (by rw[Nat.mul_comm];omega)
  have hget:(r::rows)[j / sz]?=some (r::rows)[j / sz]:=List.getElem?_eq_getElem hqq;obtain⟨b',off',hq',_,_,hk⟩:=r3 (j / sz) _ hget;rw[hq]at hq';cases hq'
  have h8:=flatR_get hrs hget hm;rw[← hd,hj]at h8;have h9:=hk (j % sz) hm;rw[← h8]at h9;rw[Addr.add_mid,← h9]
  congr 2;omega
end
theorem ref_none (w0:World):Calls Tryz.prog 139 #[] w0 fun e w'=>e=.returned (nodeV {kind:=2} nilS)∧Below w0.heap.size w0 w':=by
 have H:=Hold.start w0
 go_enter Tryz.func139,Tryz.ntmps139
 go_wp2_with (first|(first|((with_reducible refine gT ?_);(refine aT H ?_;clear H;intro w H;try simp only[nr]at H))|((with_reducible refine gA ?_);(refine bA H ?_;clear H;intro b w H;try simp only[nr]at H))|((with_reducible refine gZ ?_);refine nb1 ?_)))
 (refine ret_c Tryz.results139 rfl H atd_ (by first|(with_reducible exact row_Node)|(with_reducible exact row_Set)|(with_reducible exact row_Flags)|(with_reducible exact row_Word)) (by rfl) rfl ?_)
 exact⟨rfl,H.below⟩
theorem ref_empty (w0:World):Calls Tryz.prog 152 #[] w0 fun e w'=>e=.returned (nodeV {kind:=1} nilS)∧Below w0.heap.size w0 w':=by
 have H:=Hold.start w0
 go_enter Tryz.func152,Tryz.ntmps152
 go_wp2_with (first|(first|((with_reducible refine gT ?_);(refine aT H ?_;clear H;intro w H;try simp only[nr]at H))|((with_reducible refine gA ?_);(refine bA H ?_;clear H;intro b w H;try simp only[nr]at H))|((with_reducible refine gZ ?_);refine nb1 ?_)))
 (refine ret_c Tryz.results152 rfl H atd_ (by first|(with_reducible exact row_Node)|(with_reducible exact row_Set)|(with_reducible exact row_Flags)|(with_reducible exact row_Word)) (by rfl) rfl ?_)
 exact⟨rfl,H.below⟩
theorem ref_Size:∀ (m:Nat) (t:Tree) (p:Option Addr) (n c:Nat) (F:Nat→Prop) (w0:World),sizeT t≤m→m≤1000000000000→(∀ b,F b→b<w0.heap.size)→ForestR w0 F p c t.kids→n=t.kids.length →
  Calls Tryz.prog 138 #[nodeV t.d (.slice p n c)] w0 fun e w'=>e=.returned (.int .i64 (sizeT t))∧Below w0.heap.size w0 w'
 | 0,t,_,_,_,_,_,hm,_,_,_,_=>by have:=sizeT_pos t;omega
 | m+1,.mk d ts,p,n,c,F,w0,hm,hm2,hF,h,hn=>by
  have IH:=ref_Size m;simp only[Tree.kids,Tree.d]at h hn ⊢;obtain⟨xs,h1,h2,rfl⟩:=h.open;rw[List.length_map]at hn;rw[← hn]at h1;have hK:Knows F p n c xs w0:=⟨h1,h2⟩;clear h h1 h2;have H:=Hold.knows hF hK;have hc1:=hK.bound.2.1;have hc2:=hK.bound.2.2;have hp:=hK.at;clear hK;have E:sizeT (.mk d (xs.map (·.1)))=1+sizeTs (xs.map (·.1)):=by simp[sizeT]
  rw[E]at hm;have E2:=Lib.hid E;clear E;have HN:=Lib.hid hn;clear hn
  go_enter Tryz.func138,Tryz.ntmps138
  go_wp2_with (first|((first|((with_reducible refine kgA 1 ?_);refine kA 1 H ?_)|((with_reducible refine kgX 1 ?_);(first|refine kS 1 H ?_|refine kB 1 H ?_)));clear H;intro b1 w H;try simp only[nr]at H)|fail)
  go_loopw [3,4] (fun k i wr=>∃ j:Nat,j≤n∧i=.int .i64 j∧k=.int .i64 ((1+sizeTs ((xs.map (·.1)).take j):Nat):Int)∧Hold w0 wr [.kn F (Knows F p n c xs),.blk b1 (nodeC d (.slice p n c)) 87]) (fun _ i _=>n+1 - (intOf i).toNat)
  case atStart=>exact⟨0,by omega,rfl,by simp[sizeTs],H⟩
  case round =>
   clear H;obtain⟨j,hj,rfl,rfl,H⟩:=hrel
   by_cases hlt:j<n
   ·have dj:decide ((j:Int)<(n:Int))=true:=by simp;omega
    obtain⟨x,hx⟩:∃ x,xs[j]?=some x:=⟨_,List.getElem?_eq_getElem (by rw[← HN.out];exact hlt)⟩
    obtain⟨b,off,rfl⟩:=hp (by rw[← HN.out];omega)
    have hs1:=size_part hx;have HS:=Lib.hid (size_snoc hx);have hmem:=List.mem_of_getElem? hx;have hcell:∀ V,Knows F (some ⟨b,off,none⟩) n c xs V→∀ k,k<10→V.cell? ⟨b,off+j * 10+k,none⟩=(nodeX x)[k]?:=fun V h=>h.cells hx rfl
    have ih:=fun w (hw:∀ b,F b→b<w.heap.size) (hk:Knows F (some ⟨b,off,none⟩) n c xs w)=>IH x.1 x.2.1 _ x.2.2 F w (by omega) (by omega) hw (hk.2 x hmem) rfl
    clear IH hx hmem hp
    generalize sizeTs ((xs.map (·.1)).take j)=S at *
    go_wp2_with (first|((with_reducible refine gL ?_);refine own_loadK wtd_ _ _ rfl rfl row_Node (nodeX_size x) (hcell _ (H.kn .zero)) ?_)|((with_reducible refine gL ?_);refine aG H ?_)|(go_at_call 138;(with_reducible refine ch (ih _ (H.knlt .zero) (H.kn .zero)) H ?_);clear H;intro w H))
    go_roundw
    case rel=>exact⟨j+1,by omega,by go_num,by rw[HS.out];go_num,H⟩
    case measure=>simp[intOf];omega
   ·have dj:decide ((j:Int)<(n:Int))=false:=by simp;omega
    obtain rfl:j=n:=by omega
    go_wp2_with (first|((with_reducible refine gL ?_);refine aG H ?_))
    go_ret;exact⟨reti (by rw[E2.out,List.take_of_length_le (by rw[List.length_map,← HN.out];exact Nat.le_refl _)];omega),H.below⟩
theorem ref_again (d:NodeD) (p0:Option Addr) (n0 c0:Nat) (t:Tree) (p:Option Addr) (c:Nat) (m:Int) (F:Nat→Prop) (w0:World) (hF:∀ b,F b→b<w0.heap.size) (h:ForestR w0 F p c t.kids) :
  Calls Tryz.prog 153 #[nodeV d (.slice p0 n0 c0),nodeV t.d (.slice p t.kids.length c),.int .i64 m] w0 fun e w'=>TreeOut w0 F (againT d t m) e w'∧Below w0.heap.size w0 w':=by
 have H:=(Hold.start w0).know F (fun V=>ForestR V F p c t.kids) hF (fun i r h=>by simp at h) (fun V hV=>h.kept hV)
 clear h;simp only[List.nil_append]at H
 go_enter Tryz.func153,Tryz.ntmps153
 go_wp2_with (first|((with_reducible show @wpList _ _ _ ({dst:=_,op:=Op.buildSlice _ _ _,type:=_,pos:=_,after:=_,guard:=_}::_) _ _);refine own_build wtd_ _ _ _ rfl H (nodeC (t.d) (.slice p t.kids.length c)) 87 (by intro W;simp only[List.map_toArray,List.map_cons,List.map_nil];(try simp only[pe]);exact run_kid1 _ _ W) ?_;clear H;intro bk w H;try simp only[nr]at H)|(first|((with_reducible refine gT ?_);(refine aT H ?_;clear H;intro w H;try simp only[nr]at H))|((with_reducible refine gL ?_);(first|refine aG H ?_|refine aD H ?_))|((with_reducible refine gX ?_);(refine bB H ?_;clear H;intro b w H;try simp only[nr]at H))|((with_reducible refine gA ?_);(refine bA H ?_;clear H;intro b w H;try simp only[nr]at H))|((with_reducible refine gZ ?_);refine nbA ?_)))
 (refine ret_c Tryz.results153 rfl H atd_ (by first|(with_reducible exact row_Node)|(with_reducible exact row_Set)|(with_reducible exact row_Flags)|(with_reducible exact row_Word)) (by rfl) rfl ?_)
 have hb:=(H.blk (i:=4) i_4).1;have H2:=H.kid (i:=4) (k:=0) i_4 .zero;exact⟨⟨some ⟨bk,0,none⟩,1,_,rfl,(H2.all 5 _ rfl).2 _ (fun _ _=>rfl),fun z hz=>⟨(H2.all 5 _ rfl).1 z hz,hz.elim (fun e=>.inl (by subst e;exact hb.elim id False.elim)) .inr⟩⟩,H.below⟩
theorem ref_row11 (k q:Int) (p:Option Addr) (c n:Nat) (F:Nat→Prop) (ts:List Tree) (w0:World) (hF:∀ b,F b→b<w0.heap.size) (h:ForestR w0 F p c ts) (hn:n=ts.length) :
  Calls Tryz.prog 141 #[.int .i64 k,.slice p n c,nodeV {kind:=q} nilS] w0 fun e w'=>TreeOut w0 F (rowN k ts (leafT q)) e w'∧Below w0.heap.size w0 w':=by
 obtain⟨xs,h1,h2,rfl⟩:=h.open;rw[List.length_map]at hn;rw[← hn]at h1;have hK:Knows F p n c xs w0:=⟨h1,h2⟩;clear h h1 h2;have H:=Hold.knows hF hK;have hc1:=hK.bound.2.1;have hc2:=hK.bound.2.2;have hp:=hK.at;rcases xs with _|⟨x,_|⟨y,xs⟩⟩
 ·obtain rfl:n=0:=hn;clear hp
  go_enter Tryz.func141,Tryz.ntmps141
  go_wp2_with (first|(first|((with_reducible refine gT ?_);(refine aT H ?_;clear H;intro w H;try simp only[nr]at H))|((with_reducible refine gL ?_);refine aD H ?_)|((with_reducible refine gX ?_);(refine bB H ?_;clear H;intro b w H;try simp only[nr]at H))|((with_reducible refine gA ?_);(refine bA H ?_;clear H;intro b w H;try simp only[nr]at H))))
  (refine ret_c Tryz.results141 rfl H atd_ (by first|(with_reducible exact row_Node)|(with_reducible exact row_Set)|(with_reducible exact row_Flags)|(with_reducible exact row_Word)) (by rfl) rfl ?_)
  exact⟨⟨none,0,fun _=>False,rfl,ForestR.nil ..,fun _ h=>h.elim⟩,H.below⟩
 ·obtain rfl:n=1:=hn;obtain⟨b,off,rfl⟩:=hp (by simp)
  clear hp;have hcell:∀ V,Knows F (some ⟨b,off,none⟩) 1 c [x] V→∀ k,k<10→V.cell? ⟨b,off+k,none⟩=(nodeX x)[k]?:=fun V h=>h.cells (j:=0) rfl rfl
  go_enter Tryz.func141,Tryz.ntmps141
  go_wp2_with (first|((with_reducible refine gL ?_);refine own_loadK wtd_ _ _ rfl rfl row_Node (nodeX_size x) (hcell _ (H.kn .zero)) ?_)|(first|((with_reducible refine gT ?_);(refine aT H ?_;clear H;intro w H;try simp only[nr]at H))|((with_reducible refine gX ?_);(refine bB H ?_;clear H;intro b w H;try simp only[nr]at H))|((with_reducible refine gA ?_);(refine bA H ?_;clear H;intro b w H;try simp only[nr]at H))))
  (refine ret_c Tryz.results141 rfl H atd_ (by first|(with_reducible exact row_Node)|(with_reducible exact row_Set)|(with_reducible exact row_Flags)|(with_reducible exact row_Word)) (by rfl) rfl ?_)
  exact⟨⟨_,_,F,rfl,(H.kn (i:=0) .zero).2 x (List.mem_singleton.2 rfl),fun b h=>⟨H.knlt .zero b h,.inr h⟩⟩,H.below⟩
 ·clear hp;have h2:2≤n:=by rw[hn];simp
  have HN:=Lib.hid hn;clear hn;have d0:((n:Int) == 0)=false:=by rw[beq_eq_false_iff_ne];omega
  have d1:((n:Int) == 1)=false:=by rw[beq_eq_false_iff_ne];omega
  go_enter Tryz.func141,Tryz.ntmps141
  go_wp2_with (first|(first|((with_reducible refine gT ?_);(refine aT H ?_;clear H;intro w H;try simp only[nr]at H))|((with_reducible refine gX ?_);(refine bB H ?_;clear H;intro b w H;try simp only[nr]at H))|((with_reducible refine gA ?_);(refine bA H ?_;clear H;intro b w H;try simp only[nr]at H))|((with_reducible refine gZ ?_);refine nbK ?_)))
  (refine ret_c Tryz.results141 rfl H atd_ (by first|(with_reducible exact row_Node)|(with_reducible exact row_Set)|(with_reducible exact row_Flags)|(with_reducible exact row_Word)) (by rfl) rfl ?_)
  have e:n=((x::y::xs).map (·.1)).length:=by rw[HN.out,List.length_map]
  refine⟨⟨p,c,F,by rw[e];rfl,?_,fun b h=>⟨H.knlt .zero b h,.inr h⟩⟩,H.below⟩
  have:=H.kn (i:=0) .zero;rw[e]at this;exact this.forest
def ListOut (w:World) (G:Nat→Prop) (ts:List Tree) (e:Ending) (w':World):Prop :=
 ∃ p c F,e=.returned (.slice p ts.length c)∧ForestR w' F p c ts∧∀ b,F b→b<w'.heap.size∧(w.heap.size≤b∨G b)
theorem chl {M:Nat→Prop} {P:Program} {f:FuncId} {args:Array Value} {w w0:World} {l:List Res} {ts:List Tree} {G:Nat→Prop} {R:Ending→World→Prop} (c:Calls P f args w fun e w'=>ListOut w G ts e w'∧Below w.heap.size w w') (H:HoldG M w0 w l) (hG:Still l G)
  (k:∀ p n F w',(∀ b,F b→w0.heap.size≤b∨G b)→HoldG M w0 w' (l++[.kn F (fun V=>ForestR V F p n ts)])→R (.returned (.slice p ts.length n)) w'):Calls P f args w R:=c.mono fun _ w' h=>by
 obtain⟨⟨p,n,F,rfl,hs,hF⟩,hb⟩:=h;exact k p n F w' (fun b h=>(hF b h).2.imp (fun h=>Nat.le_trans H.keep.size h) id) (H.learn hb hG hF (fun V hV=>hs.kept hV))
theorem flat_part {xs:List TV} {j:Nat} {x:TV} (h:xs[j]?=some x) (i o:Int):flatT ((xs.map (·.1)).take (j+1)) i o=flatT ((xs.map (·.1)).take j) i o++flat1 i o x.1:=flatT_take (by rw[List.getElem?_map,h];rfl) i o
theorem flat_len (xs:List TV) (j:Nat) (i o:Int):(flatT ((xs.map (·.1)).take j) i o).length≤sizeTs (xs.map (·.1)):=by
 refine Nat.le_trans (len_sizeTs _) (Nat.le_trans (size_flatT _ _ _) ?_)
 conv=>rhs;rw[← List.take_append_drop j (xs.map (·.1)),sizeTs_append]
 omega
theorem flatR_one' (xs:List TV):∀ u ∈ flatR (xs.map nodeX),u.oneCell'=true:=by
 intro u hu;simp only[flatR,List.map_map,List.mem_flatten,List.mem_map]at hu;obtain⟨l,⟨x,_,rfl⟩,hu⟩:=hu;have:(nodeX x).toList.all (·.oneCell')=true:=rfl;exact List.all_eq_true.1 this u hu
def FlatK (F:Nat→Prop) (p:Option Addr) (n c:Nat) (xs xa:List TV) (V:World):Prop:=Knows F p n c xs V∧ListR V F xa
theorem FlatK.kept {F:Nat→Prop} {p:Option Addr} {n c:Nat} {xs xa:List TV} {V W:World} (h:FlatK F p n c xs xa W) (hV:∀ b,F b→V.heap[b]?=W.heap[b]?):FlatK F p n c xs xa V:=⟨h.1.kept hV,h.2.kept hV⟩
theorem ref_flat (p:Option Addr) (n c:Nat) (i o:Int) (F:Nat→Prop) (ts:List Tree) (w0:World) (hF:∀ b,F b→b<w0.heap.size) (h:ForestR w0 F p c ts) (hn:n=ts.length) (hsz:sizeTs ts≤1000000000) :
  Calls Tryz.prog 142 #[.slice p n c,.int .i64 i,.int .i64 o] w0 fun e w'=>ListOut w0 F (flatT ts i o) e w'∧Below w0.heap.size w0 w':=by
 obtain⟨i0,hi0,hz0,hz1,hz2⟩:=info_parts info_Node;obtain⟨xs,h1,h2,rfl⟩:=h.open;rw[List.length_map]at hn;rw[← hn]at h1;have hK:FlatK F p n c xs [] w0:=⟨⟨h1,h2⟩,ListR.nil _ _⟩;clear h h1 h2;have H:=(Hold.start w0).know F (FlatK F p n c xs []) hF (fun i r h=>by simp at h) (fun V hV=>hK.kept hV)
 have hc1:=hK.1.bound.2.1;have hc2:=hK.1.bound.2.2;have hp:=hK.1.at;have HN:=Lib.hid hn;clear hn hK
 go_enter Tryz.func142,Tryz.ntmps142
 go_wp2_with (first|fail)
 replace H:=H.addNil 87 10;simp only[List.nil_append,List.cons_append]at H
 go_loopw [7,8] (fun v ix wr=>∃ (j:Nat) (xa:List TV),j≤n∧ix=.int .i64 j∧Hid (xa.map (·.1)=flatT ((xs.map (·.1)).take j) i o)∧Hold w0 wr [.kn F (FlatK F p n c xs xa),.row v 87 10 xa.length (flatR (xa.map nodeX))]) (fun _ ix _=>n+1 - (intOf ix).toNat)
 case atStart=>exact⟨0,[],by omega,rfl,Lib.hid (by simp[flatT]),H⟩
 case round =>
  clear H;obtain⟨j,xa,hj,rfl,E,H⟩:=hrel;have hla:xa.length≤1000000000:=by
   have h1:=flat_len xs j i o;have h2:xa.length=(xa.map (·.1)).length:=(List.length_map ..).symm;rw[h2,E.out];omega
  by_cases hlt:j<n
  ·have dj:decide ((j:Int)<(n:Int))=true:=by simp;omega
   obtain⟨x,hx⟩:∃ x,xs[j]?=some x:=⟨_,List.getElem?_eq_getElem (by rw[← HN.out];exact hlt)⟩
   obtain⟨b,off,rfl⟩:=hp (by rw[← HN.out];omega)
   have hs1:=size_part hx;have hmem:=List.mem_of_getElem? hx;have EF:=Lib.hid (flat_part hx i o);have hcell:∀ V,FlatK F (some ⟨b,off,none⟩) n c xs xa V→∀ k,k<10→V.cell? ⟨b,off+j * 10+k,none⟩=(nodeX x)[k]?:=fun V h=>h.1.cells hx rfl
   have hkind:∀ V,FlatK F (some ⟨b,off,none⟩) n c xs xa V→V.cell? ⟨b,off+j * 10,none⟩=some (.int .i64 x.1.d.kind):=fun V h=>hcell V h 0 (by omega)
   have hkids:∀ V,FlatK F (some ⟨b,off,none⟩) n c xs xa V→V.cell? ⟨b,off+j * 10+5,none⟩=some (.slice x.2.1 x.1.kids.length x.2.2):=fun V h=>hcell V h 5 (by omega)
   clear hp hx
   by_cases hi:x.1.d.kind=i
   ·have di:(x.1.d.kind == i)=true:=by rw[beq_iff_eq];exact hi
    obtain⟨ys,hy1,hy2,hy3⟩:=((H.kn (i:=0) .zero).1.2 x hmem).open;have hyl:x.1.kids.length=ys.length:=by rw[hy3,List.length_map]
    have hks:ys.length≤1000000000:=by
     have h1:=len_sizeTs x.1.kids;have h2:=sizeT_eq x.1;omega
    have H1:=H.also F (fun V=>FlatK F (some ⟨b,off,none⟩) n c xs (xa++ys) V∧RdN 10 V F (.slice x.2.1 ys.length x.2.2) (ys.map nodeX)) (Still.at (i:=0) .zero) (fun V hV=>⟨⟨((H.kn (i:=0) .zero).1).kept hV,(ListR.append (H.kn (i:=0) .zero).2 hy2).kept hV⟩,hy1.kept hV⟩)
    simp only[List.cons_append,List.nil_append]at H1;rw[hyl]at hkids;have E2:=Lib.hid (show (xa++ys).map (·.1)=flatT ((xs.map (·.1)).take (j+1)) i o by rw[EF.out,List.map_append,E.out,flat1,if_pos hi,hy3])
    clear H hy1 hy2 hy3 hyl hmem hs1 hi;have H:=H1;clear H1
    go_wp2_with (first|((with_reducible refine gL ?_);refine own_load1K wtd_ _ _ rfl rfl one_spot (hkind _ (H.kn (i:=0) .zero)) ?_)|((with_reducible refine gL ?_);refine own_load1K wtd_ _ _ rfl rfl one_kids (hkids _ (H.kn (i:=0) .zero)) ?_)|(at_builtin;refine own_appendK rfl _ _ 85 rfl H (i:=1) evd_ evd_ i_1 (H.kn (i:=2) i_2).2 (nodesX_size _) Tryz.underlying85 hi0 hz0 hz1 hz2 rfl (by decide) (flatR_one' _) (by unfold maxLen;omega) (by omega) ?_;clear H;intro v2 w H;try simp only[nr]at H)|fail)
    have H2:=(H.also F (FlatK F (some ⟨b,off,none⟩) n c xs (xa++ys)) (Still.at (i:=2) i_2) (fun V hV=>((H.kn (i:=2) i_2).1).kept hV)).pick [3,1] [.kn F (FlatK F (some ⟨b,off,none⟩) n c xs (xa++ys)),.row v2 87 10 (xa.length+ys.length) (flatR (xa.map nodeX)++flatR (ys.map nodeX))] (by decide) rfl
    go_roundw
    case rel=>exact⟨j+1,xa++ys,by omega,by go_num,E2,by rw[List.length_append,List.map_append,flatR_append];exact H2⟩
    case measure=>simp[intOf];omega
   ·have di:(x.1.d.kind == i)=false:=by rw[beq_eq_false_iff_ne];exact hi
    by_cases ho:x.1.d.kind=o
    ·have do_:(x.1.d.kind == o)=true:=by rw[beq_iff_eq];exact ho
     have E2:=Lib.hid (show xa.map (·.1)=flatT ((xs.map (·.1)).take (j+1)) i o by rw[EF.out,E.out,flat1,if_neg hi,if_pos ho,List.append_nil])
     clear hmem hs1 hi ho
     go_wp2_with (first|((with_reducible refine gL ?_);refine own_load1K wtd_ _ _ rfl rfl one_spot (hkind _ (H.kn (i:=0) .zero)) ?_)|fail)
     go_roundw
     case rel=>exact⟨j+1,xa,by omega,by go_num,E2,H⟩
     case measure=>simp[intOf];omega
    ·have do_:(x.1.d.kind == o)=false:=by rw[beq_eq_false_iff_ne];exact ho
     have E2:=Lib.hid (show (xa++[x]).map (·.1)=flatT ((xs.map (·.1)).take (j+1)) i o by rw[EF.out,List.map_append,E.out,flat1,if_neg hi,if_neg ho];rfl)
     have hL:=fun V (h:FlatK F (some ⟨b,off,none⟩) n c xs xa V)=>(show ListR V F (xa++[x]) from ListR.append h.2 (fun y hy=>by rw[List.mem_singleton]at hy;subst hy;exact h.1.2 _ hmem))
     clear hs1 hi ho
     go_wp2_with (first|((with_reducible refine gL ?_);refine own_load1K wtd_ _ _ rfl rfl one_spot (hkind _ (H.kn (i:=0) .zero)) ?_)|((with_reducible refine gL ?_);refine own_loadK wtd_ _ _ rfl rfl row_Node (nodeX_size x) (hcell _ (H.kn (i:=0) .zero)) ?_)|(at_builtin;refine own_append rfl _ _ 85 rfl H evd_ rfl atd_ atd_ Tryz.underlying85 hi0 hz0 hz1 hz2 rfl (by decide) rfl rfl (by unfold maxLen;omega) (by omega) ?_;clear H;intro v2 w H;try simp only[nr]at H)|((with_reducible show @wpList _ _ _ ({dst:=_,op:=Op.buildSlice _ _ _,type:=_,pos:=_,after:=_,guard:=_}::_) _ _);refine own_build wtd_ _ _ _ rfl H (nodeC (x.1.d) (.slice x.2.1 x.1.kids.length x.2.2)) 87 (by intro W;simp only[List.map_toArray,List.map_cons,List.map_nil];(try simp only[pe]);exact run_kid1 _ _ W) ?_;clear H;intro bk w H;try simp only[nr]at H)|fail)
     have H2:=(H.also F (FlatK F (some ⟨b,off,none⟩) n c xs (xa++[x])) (Still.at (i:=0) .zero) (fun V hV=>FlatK.kept ⟨(H.kn (i:=0) .zero).1,hL _ (H.kn (i:=0) .zero)⟩ hV)).pick [3,1] [.kn F (FlatK F (some ⟨b,off,none⟩) n c xs (xa++[x])),.row v2 87 10 (xa.length+1) (flatR (xa.map nodeX)++(nodeX x).toList)] (by decide) rfl
     go_roundw
     case rel=>exact⟨j+1,xa++[x],by omega,by go_num,E2,by rw[List.length_append,List.map_append,flatR_append,List.length_singleton,List.map_singleton,flatR_one];exact H2⟩
     case measure=>simp[intOf];omega
  ·have dj:decide ((j:Int)<(n:Int))=false:=by simp;omega
   have E2:xa.map (·.1)=flatT (xs.map (·.1)) i o:=by rw[E.out,List.take_of_length_le (by rw[List.length_map,← HN.out];omega)]
   have EL:=Lib.hid E2;clear E2;obtain⟨q,cap,rfl,_,_,_⟩:=H.rowShape (i:=1) i_1;obtain⟨G,hG,H2⟩:=H.rowForest (i:=1) (xs:=xa) (K:=F) i_1 rfl (Still.at (i:=0) .zero) (H.kn (i:=0) .zero).2;clear H;have H:=H2;clear H2;simp only[List.set_cons_succ,List.set_cons_zero]at H
   go_wp2_with (first|fail)
   go_ret;refine⟨?_,H.below⟩;rw[← EL.out];exact⟨q,cap,G,by rw[List.length_map];rfl,H.kn (i:=1) i_1,fun b h=>⟨H.knlt (i:=1) i_1 b h,hG b h⟩⟩
end Go.Proofs.YtdoflhjhaciepaaGreat
namespace Go.Proofs.YtdoflhjhaciepaaGreat
open Go.RowKit
theorem wp_region_specTD {P:Program} {id:Nat} {Q:Exit→Act→World→Prop} {a0:Act} {w0:World} {l:List Oper} (n:Nat) (Ss:Nat→Nat→Nat→Value→World→Prop)
  (hm:P.follows .mixedOrders=true) (hB:specB l.toArray n=true) (hsz:(l.take n).all (fun o=>match o.dst with|some d=>decide (d<a0.tmps.size)|none=>true)=true)
  (hst:∀ i,i<n→∀ N M v w w',Ss i N M v w→Below w.heap.size w w'→Ss i N M v w')
  (hstep:∀ i o,i<n→l[i]?=some o→∀ a w,RCtx (l.take n) (fun i v w=>∃ N M,Ss i N M v w) a0 w0 o a w→RStep P l.toArray o a w (fun v w'=>Ss i w.heap.size w'.heap.size v w'))
  (hend:∀ (vals:Nat→Value) (iv:Nat→Nat × Nat) w,Below w0.heap.size w0 w→(∀ i,i<n→Ss i (iv i).1 (iv i).2 (vals i) w∧w0.heap.size≤(iv i).1∧(iv i).2≤w.heap.size)→(∀ i j,i<n→j<n→i≠j→(iv i).2≤(iv j).1∨(iv j).2≤(iv i).1)→wpList P l.toArray Q (l.drop n) (fillAll (l.take n) 0 vals a0) w) :
  (Code.region id l.toArray true).wp P Q a0 w0:=by
 simp only[specB,Bool.and_eq_true,decide_eq_true_eq]at hB;obtain⟨⟨⟨⟨hn,hd⟩,haf⟩,hsink⟩,hseq⟩:=hB;have hn':n≤l.length:=by simpa using hn
 have hd':dstsB (l.take n)=true:=hd;have htl:(l.take n).length=n:=by simp;omega
 have key:∀ (rem:List Nat) (f:Nat),rem.length=f→rem.Nodup→∀ (listed:Array Bool) (a:Act) (w:World),HeadInv .any l.toArray n listed →
   (∀ i,i ∈ rem↔(i<n∧listed.getD i true=false))→(∃ (vals:Nat→Value) (iv:Nat→Nat × Nat),a=fill (l.take n) 0 listed vals a0∧(∀ i,i<n→listed.getD i false=true→Ss i (iv i).1 (iv i).2 (vals i) w∧w0.heap.size≤(iv i).1∧(iv i).2≤w.heap.size)∧∀ i j,i<n→j<n→i≠j→listed.getD i false=true→listed.getD j false=true→(iv i).2≤(iv j).1∨(iv j).2≤(iv i).1)→Below w0.heap.size w0 w →
   wpAny P .any l.toArray Q (f+(l.toArray.size - n)) listed a w:=by
  intro rem f
  induction f generalizing rem with
  | zero =>
   intro hl _ listed a w inv hrem ⟨vals,iv,ha,hv,hp⟩ hb;have hr:rem=[]:=List.length_eq_zero_iff.1 hl;subst hr;have hall:∀ i,i<n→listed.getD i false=true:=by
    intro i hi;have h1:¬ listed.getD i true=false:=fun h=>by have:=(hrem i).2 ⟨hi,h⟩;simp at this
    have h2:i<listed.size:=by rw[inv.size];omega
    rw[Array.getD_eq_getD_getElem?,Array.getElem?_eq_getElem h2]at h1 ⊢
    simpa using h1
   have hlist:=listed_head hn inv hall;have hw:=hend vals iv w hb (fun i hi=>hv i hi (hall i hi)) (fun i j hi hj hij=>hp i j hi hj hij (hall i hi) (hall j hj))
   rw[← fill_all (l.take n) 0 listed vals a0 (fun i hi=>by rw[Nat.zero_add];exact hall i (by omega)),← ha]at hw
   rw[Nat.zero_add];have hdl:(l.drop n).length=l.toArray.size - n:=by simp
   rw[← hdl];refine wpAny_of_seq (l.drop n) n listed a w (fun j=>by simp) ?_ hw
   rw[hdl,hlist];exact hseq
  | succ f ih =>
   intro hl hnd listed a w inv hrem ⟨vals,iv,ha,hv,hp⟩ hb;have hex:∃ i,i ∈ rem∧∀ j,j ∈ rem→i≤j:=by
    have:∀ (r:List Nat),r≠[]→∃ i,i ∈ r∧∀ j,j ∈ r→i≤j:=by
     intro r
     induction r with
     | nil=>intro h;exact(h rfl).elim
     | cons x r ihr =>
      intro _
      by_cases hr:r=[]
      ·subst hr;exact⟨x,by simp,by simp⟩
      ·obtain⟨i,hi,hmin⟩:=ihr hr
       by_cases hx:x≤i
       ·exact⟨x,by simp,fun j hj=>by rcases List.mem_cons.1 hj with rfl|hj;exact Nat.le_refl _;exact Nat.le_trans hx (hmin j hj)⟩
       ·exact⟨i,by simp[hi],fun j hj=>by rcases List.mem_cons.1 hj with rfl|hj;omega;exact hmin j hj⟩
    exact this rem (by intro h;subst h;simp at hl)
   have hready:Region.ready .any l.toArray listed≠[]:=by
    obtain⟨i,hi,hmin⟩:=hex;obtain⟨hin,hil⟩:=(hrem i).1 hi;have hlt:i<l.length:=by omega
    have hmem:i ∈ Region.ready .any l.toArray listed:=by
     refine mem_ready.2 ⟨hil,l[i],by simp[hlt],fun e he hbd=>?_⟩
     have h1:=List.all_eq_true.1 haf (l[i],i) (by
      rw[List.mem_zipIdx_iff_getElem?];simp[hin,hlt])
     have h2:=Array.all_eq_true'.1 h1 e he;simp[hbd]at h2;have hj:¬ e.on ∈ rem:=fun h=>by have:=hmin _ h;omega
     have h3:¬ listed.getD e.on true=false:=fun h=>hj ((hrem _).2 ⟨by omega,h⟩)
     have h4:e.on<listed.size:=by rw[inv.size];simp;omega
     rw[Array.getD_eq_getD_getElem?,Array.getElem?_eq_getElem h4]at h3 ⊢
     simpa using h3
    intro h;rw[h]at hmem;simp at hmem
   rw[show f+1+(l.toArray.size - n)=(f+(l.toArray.size - n))+1 from by omega]
   refine⟨fun h=>(hready h).elim,fun i hi=>?_⟩
   obtain⟨hil,o,ho,haft⟩:=mem_ready.1 hi;have hin:i<n:=by
    rcases Nat.lt_or_ge i n with h|h
    ·exact h
    ·exfalso
     obtain⟨i',hi',_⟩:=hex;obtain⟨hin',hil'⟩:=(hrem i').1 hi';have hisz:i<l.toArray.size:=(Array.getElem?_eq_some_iff.1 ho).1;simp only[Bool.or_eq_true,decide_eq_true_eq,Bool.and_eq_true]at hsink;rcases hsink with h0|⟨hs,hc⟩
     ·omega
     ·exact tail_waits hs hc (by omega) inv (n - i') i' rfl hin' hil' i h hi
   have ho':l[i]?=some o:=by simpa using ho
   have hot:(l.take n)[i]?=some o:=by rw[List.getElem?_take_of_lt hin];exact ho'
   obtain⟨d,hod⟩:∃ d,o.dst=some d:=by
    have:∀ (r:List Oper) (j:Nat),dstsB r=true→r[j]?=some o→∃ d,o.dst=some d:=by
     intro r
     induction r with
     | nil=>intro j _ h;simp at h
     | cons x r ihr =>
      intro j hdd h;simp only[dstsB,Bool.and_eq_true]at hdd
      cases j with
      | zero=>simp at h;subst h;exact Option.isSome_iff_exists.1 hdd.1.1
      | succ j=>exact ihr j hdd.2 (by simpa using h)
    exact this _ i hd' hot
   have hbd:∀ (j:Nat) (oj:Oper) (dj:Tmp),(l.take n)[j]?=some oj→oj.dst=some dj→dj<a0.tmps.size:=by
    intro j oj dj hj hdj;have:=List.all_eq_true.1 hsz oj (List.mem_of_getElem? hj)
    simpa [hdj] using this
   have hctx:RCtx (l.take n) (fun i v w=>∃ N M,Ss i N M v w) a0 w0 o a w:=by
    refine⟨hb,fun t ht=>by rw[ha];exact fill_frame _ _ _ _ _ t ht,fun j dj hj hdj=>?_,by rw[ha,fill_size]⟩
    obtain⟨e,he,hbe⟩:=List.any_eq_true.1 hj;simp only[Bool.and_eq_true,beq_iff_eq]at hbe;have hlj:=haft e (Array.mem_toList_iff.1 he) hbe.1;rw[hbe.2]at hlj;obtain⟨oj,hoj,hdj'⟩:=Option.bind_eq_some_iff.1 hdj;have hjn:j<n:=by have:=(List.getElem?_eq_some_iff.1 hoj).1;omega
    rw[ha,fill_at _ 0 listed vals a0 j oj dj hd' hoj hdj' (hbd j oj dj hoj hdj') (by rw[Nat.zero_add];exact hlj),Nat.zero_add]
    exact⟨_,_,(hv j hjn hlj).1⟩
   have hstep':=hstep i o hin ho' a w hctx;have hnext:∀ v w',Below w.heap.size w w'→Ss i w.heap.size w'.heap.size v w'→wpAny P .any l.toArray Q (f+(l.toArray.size - n)) (listed.setIfInBounds i true) (a.put o.dst v) w':=by
    intro v w' hbw hsv;have hmemi:i ∈ rem:=(hrem i).2 ⟨hin,hil⟩;refine ih (rem.erase i) (by rw[List.length_erase_of_mem hmemi,hl];rfl) (hnd.erase i) _ _ w' (inv.set hi hin) (fun j=>?_) ⟨fun j=>if j=i then v else vals j,fun j=>if j=i then (w.heap.size,w'.heap.size) else iv j,?_,fun j hj hlj=>?_,fun j k hj hk hjk hlj hlk=>?_⟩ (hb.trans (hbw.mono hb.size))
    ·rw[hnd.mem_erase_iff,hrem j]
     by_cases hji:j=i
     ·subst hji;have hjs:j<listed.size:=by rw[inv.size];simp;omega
      simp[hjs]
     ·rw[getD_set_ne true (fun e=>hji e.symm)]
      simp[hji]
    ·have:=fill_set (l.take n) 0 i listed vals a0 o d v hd' hot hod (by rw[Nat.zero_add];exact hil)
     rw[Nat.zero_add]at this;rw[this,← ha,hod]
    ·by_cases hji:j=i
     ·subst hji;simp only[if_true];exact⟨hsv,hb.size,Nat.le_refl _⟩
     ·simp only[if_neg hji];rw[getD_set_ne false (fun e=>hji e.symm)]at hlj
      obtain⟨h1,h2,h3⟩:=hv j hj hlj;exact⟨hst j hj _ _ _ _ _ h1 hbw,h2,Nat.le_trans h3 hbw.size⟩
    ·by_cases hji:j=i
     ·subst hji;simp only[if_true,if_neg (fun e:k=j=>hjk e.symm)]
      rw[getD_set_ne false hjk]at hlk;exact .inr (hv k hk hlk).2.2
     ·simp only[if_neg hji];rw[getD_set_ne false (fun e=>hji e.symm)]at hlj
      by_cases hki:k=i
      ·subst hki;simp only[if_true];exact .inl (hv j hj hlj).2.2
      ·simp only[if_neg hki];rw[getD_set_ne false (fun e=>hki e.symm)]at hlk
       exact hp j k hj hk hjk hlj hlk
   unfold wpOp;simp only[ho];unfold RStep at hstep';split
   ·rename_i hw;rw[if_pos hw]at hstep';refine .inl (wpQ_mono (Oper.wp_mono (fun a' w' ⟨v,e,hbw,hsv⟩=>?_) hstep'))
    subst e;exact hnext v w' hbw hsv
   ·rename_i hw;rw[if_neg hw]at hstep';exact hnext undef w (Below.refl _ w) hstep'
 refine wp_region_any hm ?_
 have h0:=key (List.range n) n (by simp) List.nodup_range (Array.replicate l.toArray.size false) a0 {w0 with drawn:=w0.drawn+1}
  ⟨by simp,fun j oj _ hl=>(by rw[getD_replicate_false]at hl;cases hl),fun t _ ht=>getD_in (by simpa using ht) (getD_replicate_false _ _)⟩
  (fun i=>by
   rw[List.mem_range];constructor
   ·intro h;exact⟨h,getD_in (by simp;omega) (getD_replicate_false _ _)⟩
   ·intro h;exact h.1)
  ⟨fun _=>undef,fun _=>(0,0),(fill_none _ _ _ _ _ (fun i=>getD_replicate_false _ _)).symm,fun i _ h=>(by rw[getD_replicate_false]at h;cases h),fun i j _ _ _ h=>(by rw[getD_replicate_false]at h;cases h)⟩
  ((Below.refl _ w0).drew)
 rw[show n+(l.toArray.size - n)=l.toArray.size from by omega]at h0
 exact h0
abbrev Timed:=Nat→Nat→Value→World→Prop
def StableT (s:Timed):Prop:=∀ N M v w w',s N M v w→Below w.heap.size w w'→s N M v w'
theorem stableT_eq (x:Value):StableT (fun _ _ v _=>v=x):=fun _ _ _ _ _ h _=>h
def lookT:List Timed→Nat→Timed
 | [],_=>fun _ _ _ _=>True
 | s::_,0=>s
 | _::r,i+1=>lookT r i
def AllStableT:List Timed→Prop
 | []=>True
 | s::r=>StableT s∧AllStableT r
theorem lookT_stable:∀ (L:List Timed) (i:Nat),AllStableT L→StableT (lookT L i)
 | [],_,_=>fun _ _ _ _ _ h _=>h
 | _::_,0,h=>h.1
 | _::r,i+1,h=>lookT_stable r i h.2
def OblT (P:Program) (l hd:List Oper) (L:List Timed) (a0:Act) (w0:World):List Oper→Nat→Prop
 | [],_=>True
 | o::r,i=>(∀ a w,RCtx hd (fun i v w=>∃ N M,lookT L i N M v w) a0 w0 o a w→RStep P l.toArray o a w (fun v w'=>lookT L i w.heap.size w'.heap.size v w'))∧OblT P l hd L a0 w0 r (i+1)
theorem OblT.get {P:Program} {l hd:List Oper} {L:List Timed} {a0:Act} {w0:World}:∀ (r:List Oper) (k:Nat),OblT P l hd L a0 w0 r k→∀ i o,r[i]?=some o →
  ∀ a w,RCtx hd (fun i v w=>∃ N M,lookT L i N M v w) a0 w0 o a w→RStep P l.toArray o a w (fun v w'=>lookT L (k+i) w.heap.size w'.heap.size v w')
 | [],_,_,_,_,h=>by simp at h
 | o::r,k,h,0,o',h'=>by simp at h';subst h';exact h.1
 | o::r,k,h,i+1,o',h'=>by
  have:=OblT.get r (k+1) h.2 i o' (by simpa using h')
  rwa [show k+1+i=k+(i+1) from by omega]at this
theorem wp_region_specT {P:Program} {id:Nat} {Q:Exit→Act→World→Prop} {a0:Act} {w0:World} {l:List Oper} (n:Nat) (L:List Timed)
  (hm:P.follows .mixedOrders=true) (hB:specB l.toArray n=true) (hsz:(l.take n).all (fun o=>match o.dst with|some d=>decide (d<a0.tmps.size)|none=>true)=true)
  (hst:AllStableT L) (hstep:OblT P l (l.take n) L a0 w0 (l.take n) 0)
  (hend:∀ (vals:Nat→Value) (iv:Nat→Nat × Nat) w,Below w0.heap.size w0 w→(∀ i,i<n→lookT L i (iv i).1 (iv i).2 (vals i) w∧w0.heap.size≤(iv i).1∧(iv i).2≤w.heap.size)→(∀ i j,i<n→j<n→i≠j→(iv i).2≤(iv j).1∨(iv j).2≤(iv i).1) →
   wpList P l.toArray Q (l.drop n) (fillAll (l.take n) 0 vals a0) w) :
  (Code.region id l.toArray true).wp P Q a0 w0 :=
 wp_region_specTD n (lookT L) hm hB hsz (fun i _ N M v w w' h hb=>lookT_stable L i hst N M v w w' h hb)
  (fun i o hi ho a w hc=>by
   have:=OblT.get (l.take n) 0 hstep i o (by rw[List.getElem?_take_of_lt hi];exact ho) a w hc
   rwa [Nat.zero_add]at this) hend
section
variable {P:Program} {ops:Array Oper} {o:Oper} {a:Act} {w:World}
end
end Go.Proofs.YtdoflhjhaciepaaGreat
namespace Go.Proofs.YtdoflhjhaciepaaGreat
open Go.RowKit Go.Shelf
attribute [local go_sem] Oper.semAt_some
section
variable {M:Nat→Prop} {w0 w W:World} {l:List Res}
theorem HoldG.blkRow (H:HoldG M w0 w l) {i b sz:Nat} {cs:Array Value} {T:TypeId} (hi:At l i (.blk b cs T)) (hb:w0.heap.size≤b) (hs:cs.size=sz):HoldG M w0 w (l.set i (.row (.slice (some ⟨b,0,none⟩) 1 1) T sz 1 cs.toList)) :=
 H.upd hi.get ⟨rfl,rfl,rfl,Nat.le_refl _,fun _ _ _=>rfl⟩ ⟨by rw[Array.length_toList,hs,Nat.one_mul],.inr ⟨b,1,cs,rfl,hb,(H.blk hi).2,Nat.le_refl _,by decide,by rw[hs,Nat.one_mul],by rw[Nat.one_mul,← hs];exact List.take_of_length_le (by simp)⟩⟩ (fun _ e=>.inl e)
theorem HoldG.gainRK (H:HoldG M w0 w l) (hbw:Below w.heap.size w W) {b sz:Nat} {cs:Array Value} {T:TypeId} (hb:w.heap.size≤b) (hh:W.heap[b]?=some (.cells cs T (0,0))) (hs:cs.size=sz) {F G:Nat→Prop} {S:World→Prop} (hG:Still l G)
  (hF:∀ z,F z→z<W.heap.size∧(w.heap.size≤z∨G z)) (hbF:¬ F b) (hS:∀ V:World,(∀ z,F z→V.heap[z]?=W.heap[z]?)→S V):HoldG M w0 W (l++[.row (.slice (some ⟨b,0,none⟩) 1 1) T sz 1 cs.toList,.kn F S]):=by
 obtain⟨b',e,H2⟩:=H.gainB hbw ⟨b,rfl,hb,hh⟩
 cases e
 have H3:=H2.know F S (fun z hz=>(hF z hz).1) (fun i r hi z hz hf=>by
  rw[List.getElem?_append]at hi;split at hi
  ·rcases(hF z hf).2 with h|h
   ·have:=((H.all i r hi).lt z hz).2;omega
   ·exact hG.apart H i r hi z hz h
  ·rcases List.getElem?_eq_some_iff.1 hi with ⟨h1,h2⟩
   simp at h1;simp[h1]at h2;subst h2
   cases hz;exact hbF hf) hS
 have hat:At (l++[Res.blk b cs T]++[Res.kn F S]) l.length (.blk b cs T):=by
  have:∀ l:List Res,At (l++[Res.blk b cs T]++[Res.kn F S]) l.length (.blk b cs T):=by
   intro l
   induction l with
   | nil=>exact .zero
   | cons x r ih=>exact .succ ih
  exact this l
 have H4:=H3.blkRow (sz:=sz) hat (Nat.le_trans H.keep.size hb) hs
 simpa using H4
end
theorem cat_any {xs:List TV} {j:Nat} {x:TV} (h:xs[j]?=some x) (hk:x.1.d.kind=2):catT (xs.map (·.1))=leafT 2:=by
 unfold catT;rw[if_pos];rw[List.any_eq_true];exact⟨x.1,List.mem_map.2 ⟨x,List.mem_of_getElem? h,rfl⟩,by rw[hk];rfl⟩
theorem cat_none {xs:List TV} (h:∀ (k:Nat) (x:TV),xs[k]?=some x→x.1.d.kind≠2):catT (xs.map (·.1))=rowN 4 (flatT (xs.map (·.1)) 4 1) (leafT 1):=by
 unfold catT;rw[if_neg];intro hc;obtain⟨t,ht,he⟩:=List.any_eq_true.1 hc;obtain⟨x,hx,rfl⟩:=List.mem_map.1 ht;obtain⟨k,hk⟩:=List.getElem?_of_mem hx;exact h k x hk (by simpa using he)
theorem ref_cat (p:Option Addr) (n c:Nat) (F:Nat→Prop) (ts:List Tree) (w0:World) (hF:∀ b,F b→b<w0.heap.size) (h:ForestR w0 F p c ts) (hn:n=ts.length) (hsz:sizeTs ts≤1000000000) :
  Calls Tryz.prog 140 #[.slice p n c] w0 fun e w'=>TreeOut w0 F (catT ts) e w'∧Below w0.heap.size w0 w':=by
 obtain⟨xs,h1,h2,rfl⟩:=h.open;have hn':=hn;rw[List.length_map]at hn;rw[← hn]at h1;have hK:Knows F p n c xs w0:=⟨h1,h2⟩;clear h h1 h2;have H:=Hold.knows hF hK;have hc1:=hK.bound.2.1;have hc2:=hK.bound.2.2;have hp:=hK.at;have HN:=Lib.hid hn;have HN2:=Lib.hid hn';clear hn hn' hK
 go_enter Tryz.func140,Tryz.ntmps140
 go_wp2_with (first|((first|((with_reducible refine kgA 2 ?_);refine kA 2 H ?_)|((with_reducible refine kgX 2 ?_);(first|refine kS 2 H ?_|refine kB 2 H ?_)));clear H;intro b2 w H;try simp only[nr]at H)|fail)
 go_loopw [3] (fun ix wr=>∃ j:Nat,j≤n∧ix=.int .i64 j∧Hid (∀ (k:Nat) (x:TV),k<j→xs[k]?=some x→x.1.d.kind≠2)∧Hold w0 wr [.kn F (Knows F p n c xs),.blk b2 (nodeC {kind:=0} nilS) 87]) (fun ix _=>n+1 - (intOf ix).toNat)
 case atStart=>exact⟨0,by omega,rfl,Lib.hid (fun k x hk=>by omega),H⟩
 case round =>
  clear H;obtain⟨j,hj,rfl,E,H⟩:=hrel
  by_cases hlt:j<n
  ·have dj:decide ((j:Int)<(n:Int))=true:=by simp;omega
   obtain⟨x,hx⟩:∃ x,xs[j]?=some x:=⟨_,List.getElem?_eq_getElem (by rw[← HN.out];exact hlt)⟩
   obtain⟨b,off,rfl⟩:=hp (by rw[← HN.out];omega)
   have hkind:∀ V,Knows F (some ⟨b,off,none⟩) n c xs V→V.cell? ⟨b,off+j * 10,none⟩=some (.int .i64 x.1.d.kind):=fun V h=>h.cells hx rfl 0 (by omega)
   clear hp
   by_cases hk:x.1.d.kind=2
   ·have dk:(x.1.d.kind == 2)=true:=by rw[beq_iff_eq];exact hk
    have E2:=Lib.hid (cat_any hx hk);have hno:=fun w=>ref_none w
    clear hx hk
    go_wp2_with (first|((with_reducible refine gL ?_);refine own_load1K wtd_ _ _ rfl rfl one_spot (hkind _ (H.kn (i:=0) .zero)) ?_)|((with_reducible refine gT ?_);(refine aT H ?_;clear H;intro w H;try simp only[nr]at H))|(go_at_call 139;(with_reducible refine ch (hno _) H ?_);clear H;intro w H))
    (refine ret_c Tryz.results140 rfl H atd_ (by first|(with_reducible exact row_Node)|(with_reducible exact row_Set)|(with_reducible exact row_Flags)|(with_reducible exact row_Word)) (by rfl) rfl ?_)
    refine⟨?_,H.below⟩;rw[E2.out];exact⟨none,0,fun _=>False,rfl,ForestR.nil ..,fun _ h=>h.elim⟩
   ·have dk:(x.1.d.kind == 2)=false:=by rw[beq_eq_false_iff_ne];exact hk
    have E2:=Lib.hid (show ∀ (k:Nat) (y:TV),k<j+1→xs[k]?=some y→y.1.d.kind≠2 from fun k y hk' hy=>by
     by_cases e:k=j
     ·subst e;rw[hx]at hy;cases hy;exact hk
     ·exact E.out k y (by omega) hy)
    clear hx hk
    go_wp2_with (first|((with_reducible refine gL ?_);refine own_load1K wtd_ _ _ rfl rfl one_spot (hkind _ (H.kn (i:=0) .zero)) ?_)|fail)
    go_roundw
    case rel=>exact⟨j+1,by omega,by go_num,E2,H⟩
    case measure=>simp[intOf];omega
  ·have dj:decide ((j:Int)<(n:Int))=false:=by simp;omega
   have E2:=Lib.hid (cat_none (fun k x hx=>E.out k x (by have:=(List.getElem?_eq_some_iff.1 hx).1;have:=HN.out;omega) hx))
   have hfl:∀ (w:World) (l:List Res),Hold w0 w l→At l 0 (.kn F (Knows F p n c xs))→Calls Tryz.prog 142 #[.slice p n c,.int .i64 4,.int .i64 1] w fun e w'=>ListOut w F (flatT (xs.map (·.1)) 4 1) e w'∧Below w.heap.size w w':=fun w l h hi=>ref_flat p n c 4 1 F (xs.map (·.1)) w (h.knlt hi) (by have:=h.kn hi;rw[HN2.out]at this;exact this.forest) HN2.out hsz
   generalize hfs:flatT (xs.map (·.1)) 4 1=fs at E2 hfl
   have hrw:∀ (w:World) (l:List Res) (q:Option Addr) (m:Nat) (F2:Nat→Prop),Hold w0 w l→At l 2 (.kn F2 (fun V=>ForestR V F2 q m fs))→Calls Tryz.prog 141 #[.int .i64 4,.slice q fs.length m,nodeV {kind:=1} nilS] w fun e w'=>TreeOut w F2 (rowN 4 fs (leafT 1)) e w'∧Below w.heap.size w w':=fun w l q m F2 h hi=>ref_row11 4 1 q m fs.length F2 fs w (h.knlt hi) (h.kn hi) rfl
   have hem:=fun w=>ref_empty w
   rw[← E2.out]at hrw;clear hfs
   generalize hct:catT (xs.map (·.1))=ct at hrw
   have HCT:=Lib.hid hct;clear hct E2
   go_wp2_with (first|((with_reducible refine gT ?_);(refine aT H ?_;clear H;intro w H;try simp only[nr]at H))|(go_at_call 142;(with_reducible refine chl (hfl _ _ H .zero) H (Still.at (i:=0) .zero) ?_);clear H;intro q2 c2 F2 w hF2 H;try simp only[nr]at H)|(go_at_call 152;(with_reducible refine ch (hem _) H ?_);clear H;intro w H)|(go_at_call 141;(with_reducible refine cht (hrw _ _ _ _ _ H i_2) H (Still.at (i:=2) i_2) ?_);clear H;intro q3 c3 F3 w hF3 H;try simp only[nr]at H))
   (refine ret_c Tryz.results140 rfl H atd_ (by first|(with_reducible exact row_Node)|(with_reducible exact row_Set)|(with_reducible exact row_Flags)|(with_reducible exact row_Word)) (by rfl) rfl ?_)
   refine⟨?_,H.below⟩;rw[HCT.out];exact⟨q3,c3,F3,rfl,(H.all 3 _ rfl).2 _ (fun _ _=>rfl),fun b h=>⟨(H.all 3 _ rfl).1 b h,(hF3 b h).elim .inl (hF2 b)⟩⟩
section
variable {P:Program} {ops:Array Oper} {o:Oper} {a:Act} {w:World}
theorem rt_pure {v:Value} (hg:Region.wanted o (yielded ops a.tmps)=true) (hr:(execOp a.eval o).run P w=.ok (.value v) w):RStep P ops o a w (fun v' _=>v'=v):=rs_val hg hr (Below.refl _ w) rfl
theorem rt_move {x:Operand} {v:Value} (hg:Region.wanted o (yielded ops a.tmps)=true) (hop:o.op=Op.move x) (hx:a.eval x=v):RStep P ops o a w (fun v' _=>v'=v):=rt_pure hg (by simp only[execOp,hop,hx];rfl)
def OneT (cs:Array Value) (T:TypeId):Timed:=fun N M v W=>∃ b,v=.slice (some ⟨b,0,none⟩) 1 1∧N≤b∧b<M∧W.heap[b]?=some (.cells cs T (0,0))
theorem stable_oneT (cs:Array Value) (T:TypeId):StableT (OneT cs T):=fun _ _ _ _ _ ⟨b,e,h1,h2,h3⟩ hb=>⟨b,e,h1,h2,(hb.block b (Array.getElem?_eq_some_iff.1 h3).1).trans h3⟩
def ListT (G:Nat→Prop) (ts:List Tree):Timed:=fun N M v W=>∃ q c F,v=.slice q ts.length c∧ForestR W F q c ts∧∀ z,F z→z<M∧z<W.heap.size∧(N≤z∨G z)
theorem stable_listT (G:Nat→Prop) (ts:List Tree):StableT (ListT G ts):=fun _ _ _ _ _ ⟨q,c,F,e,h1,h2⟩ hb=>⟨q,c,F,e,h1.kept (fun z hz=>hb.block z (h2 z hz).2.1),fun z hz=>⟨(h2 z hz).1,Nat.lt_of_lt_of_le (h2 z hz).2.1 hb.size,(h2 z hz).2.2⟩⟩
def TreeT (n0:Nat) (G:Nat→Prop) (t:Tree):Timed:=fun _ _ v W=>∃ q c F,v=nodeV t.d (.slice q t.kids.length c)∧ForestR W F q c t.kids∧∀ z,F z→z<W.heap.size∧(n0≤z∨G z)
theorem stable_treeT (n0:Nat) (G:Nat→Prop) (t:Tree):StableT (TreeT n0 G t):=fun _ _ _ _ _ ⟨q,c,F,e,h1,h2⟩ hb=>⟨q,c,F,e,h1.kept (fun z hz=>hb.block z (h2 z hz).1),fun z hz=>⟨Nat.lt_of_lt_of_le (h2 z hz).1 hb.size,(h2 z hz).2⟩⟩
def ListU (n0:Nat) (G:Nat→Prop) (ts:List Tree):Timed:=fun _ _ v W=>∃ q c F,v=.slice q ts.length c∧ForestR W F q c ts∧∀ z,F z→z<W.heap.size∧(n0≤z∨G z)
theorem stable_listU (n0:Nat) (G:Nat→Prop) (ts:List Tree):StableT (ListU n0 G ts):=fun _ _ _ _ _ ⟨q,c,F,e,h1,h2⟩ hb=>⟨q,c,F,e,h1.kept (fun z hz=>hb.block z (h2 z hz).1),fun z hz=>⟨Nat.lt_of_lt_of_le (h2 z hz).1 hb.size,(h2 z hz).2⟩⟩
end
theorem rt_kid {ops:Array Oper} {o:Oper} {a:Act} {w:World} {x:Operand} {d:NodeD} {s:Value} (hg:Region.wanted o (yielded ops a.tmps)=true) (hop:o.op=Op.buildSlice 85 1 #[(0,x)]) (hx:a.eval x=nodeV d s) :
  RStep Tryz.prog ops o a w (fun v w'=>OneT (nodeC d s) 87 w.heap.size w'.heap.size v w'):=by
 refine rs_val hg (v:=.slice (some ⟨w.heap.size,0,none⟩) 1 1) (w':=w.alloc (.cells (nodeC d s) 87)) ?_ ((Below.refl _ w).alloc (Nat.le_refl _) _) ⟨w.heap.size,rfl,Nat.le_refl _,by simp,World.alloc_heap_new w _⟩
 simp only[execOp,hop,List.map_toArray,List.map_cons,List.map_nil,hx,Sem.run_bind,run_kid1];rfl
theorem rt_tree {ops:Array Oper} {o:Oper} {a:Act} {w:World} {x:Operand} {n0:Nat} {G:Nat→Prop} {t:Tree} (hn:n0≤w.heap.size) (hg:Region.wanted o (yielded ops a.tmps)=true) (hop:o.op=Op.buildSlice 85 1 #[(0,x)]) (hx:∃ N M,TreeT n0 G t N M (a.eval x) w) :
  RStep Tryz.prog ops o a w (fun v w'=>ListU n0 G [t] w.heap.size w'.heap.size v w'):=by
 obtain⟨_,_,q,c,F,e,hf,hF⟩:=hx;have hnew:=World.alloc_heap_new w (.cells (nodeC t.d (.slice q t.kids.length c)) 87);refine rs_val hg (v:=.slice (some ⟨w.heap.size,0,none⟩) 1 1) (w':=w.alloc (.cells (nodeC t.d (.slice q t.kids.length c)) 87)) ?_ ((Below.refl _ w).alloc (Nat.le_refl _) _) ⟨_,1,fun z=>z=w.heap.size∨F z,rfl,one_kid hnew (hf.kept (fun z hz=>((Below.refl w.heap.size w).alloc (Nat.le_refl _) _).block z (hF z hz).1)) (fun _ _=>rfl),fun z hz=>?_⟩
 ·simp only[execOp,hop,List.map_toArray,List.map_cons,List.map_nil,e,Sem.run_bind,run_kid1];rfl
 ·rw[World.size_alloc];rcases hz with rfl|hz
  ·exact⟨Nat.lt_succ_self _,.inl hn⟩
  ·exact⟨Nat.lt_succ_of_lt (hF z hz).1,(hF z hz).2⟩
theorem Knows.rd {F:Nat→Prop} {p:Option Addr} {n c:Nat} {xs:List TV} {V:World} (h:Knows F p n c xs V):RdN 10 V F (.slice p n c) (xs.map nodeX):=h.1
theorem flatR_cons (r:Array Value) (rows:List (Array Value)):flatR (r::rows)=r.toList++flatR rows:=by simp[flatR]
theorem ref_rest:∀ (m:Nat) (d:NodeD) (p0:Option Addr) (n0 c0:Nat) (k:Tree) (p:Option Addr) (c:Nat) (F:Nat→Prop) (w0:World),m≤100→sizeT k≤2000→(∀ b,F b→b<w0.heap.size)→ForestR w0 F p c k.kids →
  Calls Tryz.prog 154 #[nodeV d (.slice p0 n0 c0),nodeV k.d (.slice p k.kids.length c),.int .i64 m] w0 fun e w'=>ListOut w0 F (restT d k m) e w'∧Below w0.heap.size w0 w'
 | 0,d,p0,n0,c0,k,p,c,F,w0,_,_,hF,h=>by
  have H:=Hold.start w0
  go_enter Tryz.func154,Tryz.ntmps154
  go_wp2_with (first|((with_reducible refine gX ?_);(refine bB H ?_;clear H;intro b w H;try simp only[nr]at H)))
  go_ret;exact⟨⟨none,0,fun _=>False,rfl,ForestR.nil ..,fun _ h=>h.elim⟩,H.below⟩
 | m+1,d,p0,n0,c0,k,p,c,F,w0,hm,hk,hF,h=>by
  have IH:=ref_rest m;obtain⟨i0,hi0,hz0,hz1,hz2⟩:=info_parts info_Node;have H:=(Hold.start w0).know F (fun V=>ForestR V F p c k.kids) hF (fun i r h=>by simp at h) (fun V hV=>h.kept hV)
  clear h;simp only[List.nil_append]at H;have hm0:((m:Int)+1 == 0)=false:=by rw[beq_eq_false_iff_ne];omega
  have hm1:IntKind.i64.wrap (m:Int)=(m:Int):=by rw[IntKind.wrap_i64];omega
  have hlr:=len_rest d k m;have hsr:=size_rest d k m;have hsr2:sizeTs (restT d k m)≤1000000:=by
   have h1:m * (sizeT k+2)≤100 * 2002:=Nat.mul_le_mul (by omega) (by omega)
   omega
  have hsc:=size_catT (k::restT d k m);clear hsr;simp only[sizeTs]at hsc
  generalize hrs:restT d k m=rs at hlr hsr2 hsc
  have HRS:=Lib.hid hrs;have hih:∀ W,Hold w0 W [.kn F (fun V=>ForestR V F p c k.kids)]→Calls Tryz.prog 154 #[nodeV d (.slice p0 n0 c0),nodeV k.d (.slice p k.kids.length c),.int .i64 m] W fun e w'=>ListOut W F rs e w'∧Below W.heap.size W w':=fun W h=>hrs ▸ IH d p0 n0 c0 k p c F W (by omega) hk (h.knlt .zero) (h.kn .zero)
  clear IH hrs
  go_enter Tryz.func154,Tryz.ntmps154
  go_upto_region 3 with (first|((first|((with_reducible refine kgA 3 ?_);refine kA 3 H ?_)|((with_reducible refine kgX 3 ?_);(first|refine kS 3 H ?_|refine kB 3 H ?_)));clear H;intro b3 w H;try simp only[nr]at H)|((first|((with_reducible refine kgA 4 ?_);refine kA 4 H ?_)|((with_reducible refine kgX 4 ?_);(first|refine kS 4 H ?_|refine kB 4 H ?_)));clear H;intro b4 w H;try simp only[nr]at H)|fail)
  go_wp2_with fail
  refine wp_region_specT 7 [fun _ _ v _=>v=nodeV k.d (.slice p k.kids.length c),OneT (nodeC k.d (.slice p k.kids.length c)) 87,fun _ _ v _=>v=nodeV d (.slice p0 n0 c0),fun _ _ v _=>v=nodeV k.d (.slice p k.kids.length c),fun _ _ v _=>v=.int .i64 ((m:Int)+1),fun _ _ v _=>v=.int .i64 (m:Int),ListT F rs]
   (by kernel_rfl) (by kernel_rfl) (by kernel_rfl) ⟨stableT_eq _,stable_oneT _ _,stableT_eq _,stableT_eq _,stableT_eq _,stableT_eq _,stable_listT _ _,trivial⟩ ?ob ?en
  case ob =>
   refine⟨?_,?_,?_,?_,?_,?_,?_,trivial⟩<;>intro A W h
   ·exact rt_pure rfl (run_loadK rfl (h.frame 4 rfl) row_Node rfl (fun j _=>by rw[Nat.zero_add];exact(H.call h.below).cell (i:=2) i_2 j))
   ·obtain⟨_,_,e⟩:=h.dep 0 10 rfl rfl;exact rt_kid rfl rfl e
   ·exact rt_pure rfl (run_loadK rfl (h.frame 3 rfl) row_Node rfl (fun j _=>by rw[Nat.zero_add];exact(H.call h.below).cell (i:=1) i_1 j))
   ·exact rt_pure rfl (run_loadK rfl (h.frame 4 rfl) row_Node rfl (fun j _=>by rw[Nat.zero_add];exact(H.call h.below).cell (i:=2) i_2 j))
   ·exact rt_move rfl rfl (h.frame 2 rfl)
   ·obtain⟨_,_,e⟩:=h.dep 4 14 rfl rfl;have e':A.eval (.tmp 14)=.int .i64 ((m:Int)+1):=e;exact rt_pure rfl (by simp only[execOp,e'];simp[go_sem,hm1])
   ·obtain⟨_,_,e1⟩:=h.dep 2 12 rfl rfl;obtain⟨_,_,e2⟩:=h.dep 3 13 rfl rfl;obtain⟨_,_,e3⟩:=h.dep 5 15 rfl rfl;refine rs_calln' rfl rfl (enters_of Tryz.func154 (by kernel_rfl) rfl) (args3 ⟨e1,e2,e3⟩) ((hih W ((H.call h.below).pick [0] _ (by decide) rfl)).mono ?_)
    rintro e w' ⟨⟨q,c2,F2,rfl,hs,hF2⟩,hb⟩;exact⟨_,rfl,hb,q,c2,F2,rfl,hs,fun z hz=>⟨(hF2 z hz).1,(hF2 z hz).1,(hF2 z hz).2⟩⟩
  case en =>
   intro vals iv W hbw hv hiv;have v0:vals 0=nodeV k.d (.slice p k.kids.length c):=(hv 0 (by omega)).1
   have v2:vals 2=nodeV d (.slice p0 n0 c0):=(hv 2 (by omega)).1
   have v3:vals 3=nodeV k.d (.slice p k.kids.length c):=(hv 3 (by omega)).1
   have v4:vals 4=.int .i64 ((m:Int)+1):=(hv 4 (by omega)).1
   have v5:vals 5=.int .i64 (m:Int):=(hv 5 (by omega)).1
   obtain⟨⟨b,e1,hb1,hb2,hh⟩,hb3,hb4⟩:=hv 1 (by omega)
   obtain⟨⟨q,c2,F2,e6,hs,hF2⟩,hq1,hq2⟩:=hv 6 (by omega)
   have hd:=hiv 1 6 (by omega) (by omega) (by omega)
   have hbF:¬ F2 b:=fun hf=>by
    rcases(hF2 b hf).2.2 with h|h
    ·have:=(hF2 b hf).1;omega
    ·have:=H.knlt (i:=0) .zero b h;omega
   obtain⟨xs,hx1,hx2,rfl⟩:=hs.open;have hxl:(xs.map (·.1)).length=xs.length:=List.length_map ..;rw[hxl]at e6 hlr;have hH:=H.gainRK (sz:=10) hbw (by omega:w.heap.size≤b) hh rfl (F:=F2) (G:=F) (S:=Knows F2 q xs.length c2 xs) (Still.at (i:=0) .zero) (fun z hz=>⟨(hF2 z hz).2.1,(hF2 z hz).2.2.imp (fun h=>Nat.le_trans hq1 h) id⟩) hbF (fun V hV=>⟨hx1.kept hV,hx2.kept hV⟩)
   simp only[List.cons_append,List.nil_append]at hH;simp only[fa,Nat.reduceAdd];rw[v0,e1,v2,v3,v4,v5,e6];have hN6:w0.heap.size≤(iv 6).1:=Nat.le_trans H.below.size hq1;clear hv v0 e1 v2 v3 v4 v5 e6 hiv hd hbF hs hx1 hx2 hb1 hb2 hb3 hb4 hh hq1 hq2 H;have H:=hH;clear hH;simp only[pl]
   go_upto_region 4 with (first|(at_builtin;refine own_appendK rfl _ _ 85 rfl H (i:=3) evd_ evd_ i_3 (Knows.rd (H.kn (i:=4) i_4)) (nodesX_size _) Tryz.underlying85 hi0 hz0 hz1 hz2 rfl (by decide) (flatR_one' _) (by unfold maxLen;omega) (by omega) ?_;clear H;intro v2 w H;try simp only[nr]at H)|fail)
   obtain⟨q',cap',rfl,_,_,_⟩:=H.rowShape (i:=3) i_3;rw[show (nodeC k.d (.slice p k.kids.length c)).toList++flatR (xs.map nodeX)=flatR ((((k,p,c):TV)::xs).map nodeX) from (flatR_cons _ _).symm]at H
   obtain⟨G',hG',H2⟩:=H.rowForest (i:=3) (xs:=((k,p,c):TV)::xs) (K:=fun z=>F z∨F2 z) i_3 (by simp;omega) ((Still.at (i:=0) .zero).or (Still.at (i:=4) i_4)) (fun y hy=>by
    rcases List.mem_cons.1 hy with rfl|hy
    ·exact(H.kn (i:=0) .zero).mono (fun _ h=>.inl h)
    ·exact((H.kn (i:=4) i_4).2 y hy).mono (fun _ h=>.inr h))
   clear H;have H:=H2;clear H2;simp only[List.set_cons_succ,List.set_cons_zero,List.map_cons]at H;have hF2l:∀ z,F2 z→w0.heap.size≤z∨F z:=fun z hz=>(hF2 z hz).2.2.imp (fun h=>Nat.le_trans hN6 h) id
   have hGl:∀ z,G' z→w0.heap.size≤z∨F z:=fun z hz=>(hG' z hz).elim .inl (fun h=>h.elim .inr (hF2l z))
   clear hG' hF2 hF2l hN6 hih hlr;have ES:=Lib.hid (show sizeTs (k::xs.map (·.1))≤1000000000 by simp only[sizeTs];omega)
   have ER:=Lib.hid (show restT d k (m+1)=[againT d (catT (k::xs.map (·.1))) 1] by rw[restT,HRS.out])
   generalize hct:catT (k::xs.map (·.1))=ct at ER
   have HCT:=Lib.hid hct;clear hct hsc hsr2
   go_wp2_with fail
   refine wp_region_specT 5 [fun _ _ v _=>v=nodeV d (.slice p0 n0 c0),fun _ _ v _=>v=.slice q' (1+xs.length) cap',TreeT w.heap.size G' ct,TreeT w.heap.size G' (againT d ct 1),ListU w.heap.size G' [againT d ct 1]]
    (by kernel_rfl) (by kernel_rfl) (by kernel_rfl) ⟨stableT_eq _,stableT_eq _,stable_treeT _ _ _,stable_treeT _ _ _,stable_listU _ _ _,trivial⟩ ?ob2 ?en2
   case ob2 =>
    refine⟨?_,?_,?_,?_,?_,trivial⟩<;>intro A W h
    ·exact rt_pure rfl (run_loadK rfl (h.frame 3 rfl) row_Node rfl (fun j _=>by rw[Nat.zero_add];exact(H.call h.below).cell (i:=1) i_1 j))
    ·exact rt_move rfl rfl (h.frame 7 rfl)
    ·obtain⟨_,_,e1⟩:=h.dep 1 19 rfl rfl;have HW:=H.call h.below;have hc:=ref_cat q' (1+xs.length) cap' G' (k::xs.map (·.1)) W (HW.knlt (i:=3) i_3) (HW.kn (i:=3) i_3) (by rw[List.length_cons,List.length_map];omega) ES.out
     rw[HCT.out]at hc;refine rs_calln' rfl rfl (enters_of Tryz.func140 (by kernel_rfl) rfl) (args1 e1) (hc.mono ?_)
     rintro e w' ⟨⟨q3,c3,F3,rfl,hs3,hF3⟩,hb⟩;exact⟨_,rfl,hb,q3,c3,F3,rfl,hs3,fun z hz=>⟨(hF3 z hz).1,(hF3 z hz).2.imp (fun hh=>Nat.le_trans h.below.size hh) id⟩⟩
    ·obtain⟨_,_,e0⟩:=h.dep 0 18 rfl rfl;obtain⟨_,_,q3,c3,F3,e2,hs3,hF3⟩:=h.dep 2 20 rfl rfl;refine rs_calln' rfl rfl (enters_of Tryz.func153 (by kernel_rfl) rfl) (args3 ⟨e0,e2,rfl⟩) ((ref_again d p0 n0 c0 ct q3 c3 1 F3 W (fun z hz=>(hF3 z hz).1) hs3).mono ?_)
     rintro e w' ⟨⟨q4,c4,F4,rfl,hs4,hF4⟩,hb⟩;exact⟨_,rfl,hb,q4,c4,F4,rfl,hs4,fun z hz=>⟨(hF4 z hz).1,(hF4 z hz).2.elim (fun hh=>.inl (Nat.le_trans h.below.size hh)) (fun hh=>(hF3 z hh).2)⟩⟩
    ·exact rt_tree h.below.size rfl rfl (h.dep 3 21 rfl rfl)
   case en2 =>
    intro vals iv W2 hbw2 hv hiv;have v0:vals 0=nodeV d (.slice p0 n0 c0):=(hv 0 (by omega)).1
    have v1:vals 1=.slice q' (1+xs.length) cap':=(hv 1 (by omega)).1
    obtain⟨⟨q3,c3,F3,v2,_,_⟩,_,_⟩:=hv 2 (by omega)
    obtain⟨⟨q4,c4,F4,v3,_,_⟩,_,_⟩:=hv 3 (by omega)
    obtain⟨⟨q5,c5,F5,v4,hs5,hF5⟩,_,_⟩:=hv 4 (by omega)
    simp only[fa,Nat.reduceAdd];rw[v0,v1,v2,v3,v4];have H5:=H.call hbw2;have hsz:=H.below.size;clear hv v0 v1 v2 v3 v4 hiv H;simp only[pl]
    go_wp2_with fail
    go_ret;refine⟨?_,H5.below⟩;rw[ER.out];exact⟨q5,c5,F5,rfl,hs5,fun z hz=>⟨(hF5 z hz).1,(hF5 z hz).2.elim (fun hh=>.inl (Nat.le_trans hsz hh)) (hGl z)⟩⟩
end Go.Proofs.YtdoflhjhaciepaaGreat
