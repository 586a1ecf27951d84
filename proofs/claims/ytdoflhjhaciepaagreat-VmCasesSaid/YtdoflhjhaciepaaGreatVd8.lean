/-
  Laws of walks, and walks.
-/
import Derived.Test.YtdoflhjhaciepaaGreatVd4
import Derived.Test.YtdoflhjhaciepaaGreatVd7
set_option linter.unusedVariables false
set_option linter.unusedSimpArgs false
set_option maxRecDepth 100000
set_option maxHeartbeats 16000000
namespace Go.Proofs.YtdoflhjhaciepaaGreat
section
open Go.RowKit Go.Shelf
attribute [local go_sem] Oper.semAt_some
theorem zCx {fn:Func} {p q r s t:Tmp} (h:fn.results=#[.tmp p,.tmp q,.tmp r,.tmp s,.tmp t]) (tmps:Array Value) (P:Program) (w:World) :
  (results fn tmps).run P w=.ok (.tuple #[tmps.getD p undef,tmps.getD q undef,tmps.getD r undef,tmps.getD s undef,tmps.getD t undef]) w:=by
 simp[results,h]
def hasV (k:Int):Value:=.tuple #[.bool (k == 1),.bool (k == 1 || k == 2 || k == 3 || k == 4),.bool (k == 2),.bool (k == 3),.bool (k == 4)]
theorem zMy (k:Int) (w0:World):Calls Tryz.prog 70 #[.int .i64 k] w0 (Rt (hasV k) w0):=by
 have H:=Hold.start w0
 cases h1:k == 1 with
 | true =>
  have E:=Lib.hid (show hasV k=.tuple #[.bool true,.bool true,.bool false,.bool false,.bool false] by rw[beq_iff_eq]at h1;subst h1;rfl)
  go_enter Tryz.func70,Tryz.ntmps70
  go_wp2_with fail
  refine bodyPost_ret (zCx rfl _ _ _) rfl ?_
  exact⟨by rw[E.out];rfl,H.below⟩
 | false =>
  cases h2:k == 2 with
  | true =>
   have E:=Lib.hid (show hasV k=.tuple #[.bool false,.bool true,.bool true,.bool false,.bool false] by rw[beq_iff_eq]at h2;subst h2;rfl)
   go_enter Tryz.func70,Tryz.ntmps70
   go_wp2_with fail
   refine bodyPost_ret (zCx rfl _ _ _) rfl ?_
   exact⟨by rw[E.out];rfl,H.below⟩
  | false =>
   cases h3:k == 3 with
   | true =>
    have E:=Lib.hid (show hasV k=.tuple #[.bool false,.bool true,.bool false,.bool true,.bool false] by rw[beq_iff_eq]at h3;subst h3;rfl)
    go_enter Tryz.func70,Tryz.ntmps70
    go_wp2_with fail
    refine bodyPost_ret (zCx rfl _ _ _) rfl ?_
    exact⟨by rw[E.out];rfl,H.below⟩
   | false =>
    cases h4:k == 4 with
    | true =>
     have E:=Lib.hid (show hasV k=.tuple #[.bool false,.bool true,.bool false,.bool false,.bool true] by rw[beq_iff_eq]at h4;subst h4;rfl)
     go_enter Tryz.func70,Tryz.ntmps70
     go_wp2_with fail
     refine bodyPost_ret (zCx rfl _ _ _) rfl ?_
     exact⟨by rw[E.out];rfl,H.below⟩
    | false =>
     have E:=Lib.hid (show hasV k=.tuple #[.bool false,.bool false,.bool false,.bool false,.bool false] by unfold hasV;rw[h1,h2,h3,h4];rfl)
     go_enter Tryz.func70,Tryz.ntmps70
     go_wp2_with fail
     refine bodyPost_ret (zCx rfl _ _ _) rfl ?_
     exact⟨by rw[E.out];rfl,H.below⟩
theorem zJa (n:Nat) (x:InstD):zBa n x=!((((decide ((x.kind)<(1))) || (decide ((6)<(x.kind)))) || ((!(eqS (x.set) (zAE))) != (x.kind == 1))) ||
  ((((((x.kind == 1 || x.kind == 2 || x.kind == 3 || x.kind == 4)&&((decide ((x.next)<(0))) || (decide (((n:Int))≤(x.next))))) || ((!(x.kind == 1 || x.kind == 2 || x.kind == 3 || x.kind == 4))&&((x.next) != (0)))) || ((x.kind == 2)&&((decide ((x.other)<(0))) || (decide (((n:Int))≤(x.other)))))) || ((!(x.kind == 2))&&((x.other) != (0)))) ||
  (((((x.kind == 3)&&((decide ((x.slot)<(0))) || (decide ((41)<(x.slot))))) || ((!(x.kind == 3))&&((x.slot) != (0)))) || ((x.kind == 4)&&((decide ((x.spot)<(8))) || (decide ((13)<(x.spot)))))) || ((!(x.kind == 4))&&((x.spot) != (0)))))):=by
 obtain⟨k,s,a,b,c,d⟩:=x;simp only;unfold zBa inN
 generalize eqS s zAE=q
 simp only
 by_cases h1:k=1
 ·subst h1;rw[Bool.eq_iff_iff];cases q<;>simp<;>omega
 by_cases h2:k=2
 ·subst h2;rw[Bool.eq_iff_iff];cases q<;>simp<;>omega
 by_cases h3:k=3
 ·subst h3;rw[Bool.eq_iff_iff];cases q<;>simp<;>omega
 by_cases h4:k=4
 ·subst h4;rw[Bool.eq_iff_iff];cases q<;>simp<;>omega
 by_cases h5:k=5
 ·subst h5;rw[Bool.eq_iff_iff];cases q<;>simp<;>omega
 by_cases h6:k=6
 ·subst h6;rw[Bool.eq_iff_iff];cases q<;>simp<;>omega
 ·rw[Bool.eq_iff_iff];cases q<;>simp[h1,h2,h3,h4,h5,h6]<;>omega
def zEh (p:List InstD):Int:=p.foldl (fun m x=>max m x.slot) 1
def zHy (p:List InstD):Int:=wrap64 (wrap64 (wrap64 ((zEh p).tdiv 2) * 2)+2)
theorem zHs {xs:List InstD} {j:Nat} {x:InstD} (h:xs[j]?=some x):zEh (xs.take (j+1))=max (zEh (xs.take j)) x.slot:=by
 rw[zCn h];simp[zEh]
theorem zKU (p:Option Addr) (c:Nat) (xs:List InstD) (F:Nat→Prop) (w0:World) (hF:∀ b,F b→b<w0.heap.size) (h:InstsR F p c xs w0) :
  Calls Tryz.prog 39 #[.slice p xs.length c] w0 (Rt (.int .i64 (zHy xs)) w0):=by
 have hc:=h.bound;have hp:=h.at;have H:=Hold.insts hF h;clear h;obtain⟨n,hn⟩:∃ n,xs.length=n:=⟨_,rfl⟩;rw[hn]at hc hp ⊢;have HN:=Lib.hid hn;clear hn
 go_enter Tryz.func39,Tryz.ntmps39
 go_wp2_with (first|fail)
 go_loopw [3,4] (fun vs ix wr=>∃ (j:Nat),j≤n∧vs=.int .i64 (zEh (xs.take j))∧ix=.int .i64 j∧Hold w0 wr [.kn F (InstsR F p c xs)]) (fun _ ix _=>n+1 - (intOf ix).toNat)
 case atStart=>exact⟨0,by omega,rfl,rfl,H⟩
 case round =>
  clear H;obtain⟨j,hj,rfl,rfl,H⟩:=hrel
  by_cases hlt:j<n
  ·have dj:decide ((j:Int)<(n:Int))=true:=by simp;omega
   obtain⟨x,hx⟩:∃ x,xs[j]?=some x:=⟨_,List.getElem?_eq_getElem (by rw[HN.out];exact hlt)⟩
   obtain⟨b,off,rfl⟩:=hp (by omega)
   have hcell:∀ V,InstsR F (some ⟨b,off,none⟩) c xs V→V.cell? ⟨b,off+j * 9+7,none⟩=some (.int .i64 x.slot):=fun V h=>(h.cells hx rfl 7 (by decide)).trans rfl
   have E:=Lib.hid (zHs hx);clear hx hp
   go_wp2_with (first|((with_reducible refine gL ?_);refine zAJ wtd_ _ _ rfl rfl zAH (hcell _ (H.kn (i:=0) .zero)) ?_)|fail)
   go_roundw
   case rel=>exact⟨j+1,by omega,by rw[E.out,show (if zEh (List.take j xs)<x.slot then x.slot else zEh (List.take j xs))=max (zEh (List.take j xs)) x.slot by omega],by go_num,H⟩
   case measure=>simp[intOf];omega
  ·have hjn:j=n:=by omega
   subst hjn;have dj:decide ((j:Int)<(j:Int))=false:=by simp
   have E:=Lib.hid (show zEh (xs.take j)=zEh xs by rw[List.take_of_length_le (by rw[HN.out];omega)])
   clear hp
   go_wp2_with (first|fail)
   go_ret;exact⟨by unfold zHy;rw[← E.out];rfl,H.below⟩
theorem zPg {xs:List InstD} {j:Nat} {x:InstD} (hx:xs[j]?=some x) (h:zBa xs.length x=false):zA3 xs=false:=by
 have:xs.all (zBa xs.length)=false:=by
  rw[List.all_eq_false];exact⟨x,List.mem_of_getElem? hx,by rw[h];decide⟩
 unfold zA3;rw[this,Bool.and_false]
theorem zJq {α:Type} {f:α→Bool} {xs:List α} {j:Nat} {x:α} (hx:xs[j]?=some x) (h:(xs.take j).all f=true) (hf:f x=true):(xs.take (j+1)).all f=true:=by
 rw[zCn hx,List.all_append,h];simp[hf]
theorem zKt (p:Option Addr) (c:Nat) (xs:List InstD) (F:Nat→Prop) (w0:World) (hF:∀ b,F b→b<w0.heap.size) (h:InstsR F p c xs w0) :
  Calls Tryz.prog 38 #[.slice p xs.length c] w0 (Rt (.bool (zA3 xs)) w0):=by
 have hc:=h.bound;have hp:=h.at;have H:=Hold.insts hF h;clear h;obtain⟨n,hn⟩:∃ n,xs.length=n:=⟨_,rfl⟩;rw[hn]at hc hp ⊢;have HN:=Lib.hid hn;clear hn
 by_cases h1:n<1
 ·have d1:decide ((n:Int)<1)=true:=by simp;omega
  have E:=Lib.hid (show zA3 xs=false by unfold zA3;rw[decide_eq_false (by rw[HN.out];omega),Bool.false_and,Bool.false_and])
  go_enter Tryz.func38,Tryz.ntmps38
  go_wp2_with (first|fail)
  go_ret;exact⟨by rw[E.out];rfl,H.below⟩
 have d1:decide ((n:Int)<1)=false:=by simp;omega
 by_cases h2:4000<n
 ·have d2:decide ((4000:Int)<(n:Int))=true:=by simp;omega
  have E:=Lib.hid (show zA3 xs=false by unfold zA3;rw[decide_eq_false (p:=xs.length≤4000) (by rw[HN.out];omega),Bool.and_false,Bool.false_and])
  go_enter Tryz.func38,Tryz.ntmps38
  go_wp2_with (first|fail)
  go_ret;exact⟨by rw[E.out];rfl,H.below⟩
 have d2:decide ((4000:Int)<(n:Int))=false:=by simp;omega
 go_enter Tryz.func38,Tryz.ntmps38
 go_wp2_with (first|fail)
 go_loopw [3] (fun ix wr=>∃ (j:Nat),j≤n∧ix=.int .i64 j∧Hid ((xs.take j).all (zBa n)=true)∧Hold w0 wr [.kn F (InstsR F p c xs)]) (fun ix _=>n+1 - (intOf ix).toNat)
 case atStart=>exact⟨0,by omega,rfl,Lib.hid rfl,H⟩
 case round =>
  clear H;obtain⟨j,hj,rfl,EA,H⟩:=hrel
  by_cases hlt:j<n
  ·have dj:decide ((j:Int)<(n:Int))=true:=by simp;omega
   obtain⟨x,hx⟩:∃ x,xs[j]?=some x:=⟨_,List.getElem?_eq_getElem (by rw[HN.out];exact hlt)⟩
   obtain⟨b,off,rfl⟩:=hp (by omega)
   have hcell:∀ V,InstsR F (some ⟨b,off,none⟩) c xs V→∀ k,k<9→V.cell? ⟨b,off+j * 9+k,none⟩=(zAY x)[k]?:=fun V h=>h.cells hx rfl
   have hha:∀ w,Calls Tryz.prog 70 #[.int .i64 x.kind] w (Rt (.tuple #[.bool (x.kind == 1),.bool (x.kind == 1 || x.kind == 2 || x.kind == 3 || x.kind == 4),.bool (x.kind == 2),.bool (x.kind == 3),.bool (x.kind == 4)]) w):=zMy x.kind
   have ht:=zJa n x
   generalize (x.kind == 1 || x.kind == 2 || x.kind == 3 || x.kind == 4)=b2 at hha ht
   generalize (x.kind == 1)=b1 at hha ht
   generalize (x.kind == 2)=b3 at hha ht
   generalize (x.kind == 3)=b4x at hha ht
   generalize (x.kind == 4)=b5 at hha ht
   obtain⟨q8,h8⟩:∃ q,(((decide ((x.kind)<(1))) || (decide ((6)<(x.kind)))) || ((!(eqS (x.set) (zAE))) != (b1)))=q:=⟨_,rfl⟩
   obtain⟨q10,h10⟩:∃ q,(((((b2)&&((decide ((x.next)<(0))) || (decide (((n:Int))≤(x.next))))) || ((!(b2))&&((x.next) != (0)))) || ((b3)&&((decide ((x.other)<(0))) || (decide (((n:Int))≤(x.other)))))) || ((!(b3))&&((x.other) != (0))))=q:=⟨_,rfl⟩
   obtain⟨q12,h12⟩:∃ q,(((((b4x)&&((decide ((x.slot)<(0))) || (decide ((41)<(x.slot))))) || ((!(b4x))&&((x.slot) != (0)))) || ((b5)&&((decide ((x.spot)<(8))) || (decide ((13)<(x.spot)))))) || ((!(b5))&&((x.spot) != (0))))=q:=⟨_,rfl⟩
   rw[h8,h10,h12]at ht;have EN:(q8 || (q10 || q12))=true→Hid (zA3 xs=false):=fun h=>Lib.hid (zPg hx (by rw[HN.out,ht,h];rfl))
   have EY:(q8 || (q10 || q12))=false→Hid ((xs.take (j+1)).all (zBa n)=true):=fun h=>Lib.hid (zJq hx EA.out (by rw[ht,h];rfl))
   clear hx hp ht EA;have h8:=Lib.hid h8;have h10:=Lib.hid h10;have h12:=Lib.hid h12
   go_upto_region 8 with (first|((with_reducible refine gL ?_);refine zAS wtd_ _ _ rfl rfl zAk rfl (hcell _ (H.kn (i:=0) .zero)) ?_)|((first|((with_reducible refine kgA 4 ?_);refine kA 4 H ?_)|((with_reducible refine kgX 4 ?_);(first|refine kS 4 H ?_|refine kB 4 H ?_)));clear H;intro b4 w H;try simp only[nr]at H)|(first|((with_reducible refine gTi ?_);refine aTi H ?_;clear H;intro w H;try simp only[nr]at H)|((with_reducible refine gL ?_);refine aGi H ?_))|((with_reducible refine ch (hha _) H ?_);clear H;intro w H))
   refine ws_ 16 [fun v _=>v=Value.pointer (some ⟨b4,0,none⟩),fun v _=>v=Value.int .i64 (x.kind),fun v _=>v=Value.bool (decide ((x.kind)<(1))),fun v _=>v=Value.bool (decide ((x.kind)<(1))),fun v _=>v=iT (true) (decide ((x.kind)<(1))) false (.pointer (some ⟨b4,0,none⟩)),fun v _=>v=iT (true) (decide ((x.kind)<(1))) false (.int .i64 (x.kind)),fun v _=>v=iT (true) (decide ((x.kind)<(1))) false (.bool (decide ((6)<(x.kind)))),fun v _=>v=Value.bool ((decide ((x.kind)<(1))) || (decide ((6)<(x.kind)))),fun v _=>v=Value.bool ((decide ((x.kind)<(1))) || (decide ((6)<(x.kind)))),fun v _=>v=iT (true) ((decide ((x.kind)<(1))) || (decide ((6)<(x.kind)))) false (.pointer (some ⟨b4,1,none⟩)),fun v _=>v=iT (true) ((decide ((x.kind)<(1))) || (decide ((6)<(x.kind)))) false (setV (x.set)),fun v _=>v=iT (true) ((decide ((x.kind)<(1))) || (decide ((6)<(x.kind)))) false (setV (zAE)),fun v _=>v=iT (true) ((decide ((x.kind)<(1))) || (decide ((6)<(x.kind)))) false (.bool (!(eqS (x.set) (zAE)))),fun v _=>v=iT (true) ((decide ((x.kind)<(1))) || (decide ((6)<(x.kind)))) false (.bool (b1)),fun v _=>v=iT (true) ((decide ((x.kind)<(1))) || (decide ((6)<(x.kind)))) false (.bool ((!(eqS (x.set) (zAE))) != (b1))),fun v _=>v=Value.bool (((decide ((x.kind)<(1))) || (decide ((6)<(x.kind)))) || ((!(eqS (x.set) (zAE))) != (b1)))] ?ob ?en
   case ob =>
    refine⟨?_,?_,?_,?_,?_,?_,?_,?_,?_,?_,?_,?_,?_,?_,?_,?_,trivial⟩<;>intro A W h
    ·exact zAA rfl ((by have e:A.eval (.tmp 4)=Value.pointer (some ⟨b4,0,none⟩):=h.f 4;simp only[execOp,e];simp[go_sem]))
    ·exact zAA rfl (zAC rfl (h.d 0 37) (by decide +kernel) ((H.call h.below).cell (i:=1) i_1 0))
    ·exact zAA rfl ((by have e38:A.eval (.tmp 38)=Value.int .i64 (x.kind):=h.d 1 38;simp only[execOp,e38];simp[go_sem]))
    ·exact zAA rfl (zAN (.inl rfl) (h.d 2 39))
    ·refine sy_ (h.d 3 40) fun hC=>?_;exact(by have e:A.eval (.tmp 4)=Value.pointer (some ⟨b4,0,none⟩):=h.f 4;simp only[execOp,e];simp[go_sem])
    ·refine sy_ (h.d 3 40) fun hC=>?_;exact zAC rfl (zAD (h.d 4 41) hC) (by decide +kernel) ((H.call h.below).cell (i:=1) i_1 0)
    ·refine sy_ (h.d 3 40) fun hC=>?_;exact(by have e42:A.eval (.tmp 42)=Value.int .i64 (x.kind):=zAD (h.d 5 42) hC;simp only[execOp,e42];simp[go_sem])
    ·exact zAA rfl (zCA rfl (h.d 3 40) (fun hb2=>zAD (h.d 6 43) (by (first|(rw[hb2];rfl)|simp[hb2]))))
    ·exact zAA rfl (zAN (.inl rfl) (h.d 7 44))
    ·refine sy_ (h.d 8 45) fun hC=>?_;exact(by have e:A.eval (.tmp 4)=Value.pointer (some ⟨b4,0,none⟩):=h.f 4;simp only[execOp,e];simp[go_sem])
    ·refine sy_ (h.d 8 45) fun hC=>?_;exact zAb rfl (zAD (h.d 9 46) hC) zBY rfl (fun j hj=>by have h1:=(H.call h.below).cell (i:=1) i_1 (1+j);rcases j with _|_|_|_|j<;>first|exact h1|omega)
    ·refine sy_ (h.d 8 45) fun hC=>?_;exact zLg rfl
    ·refine sy_ (h.d 8 45) fun hC=>?_;exact(zOg rfl (zAD (h.d 10 47) hC) (zAD (h.d 11 48) hC))
    ·refine sy_ (h.d 8 45) fun hC=>?_;exact zAN (.inl rfl) (h.f 5)
    ·refine sy_ (h.d 8 45) fun hC=>?_;exact(by have e49:A.eval (.tmp 49)=Value.bool (!(eqS (x.set) (zAE))):=zAD (h.d 12 49) hC;have e50:A.eval (.tmp 50)=Value.bool (b1):=zAD (h.d 13 50) hC;simp only[execOp,e49,e50];generalize (!(eqS (x.set) (zAE)))=bp;generalize (b1)=bq;cases bp<;>cases bq<;>simp[go_sem])
    ·exact zAA rfl (zCA rfl (h.d 8 45) (fun hb2=>zAD (h.d 14 51) (by (first|(rw[hb2];rfl)|simp[hb2]))))
   case en =>
    intro vals W hbw hv _;have v15:vals 15=_:=hv 15 (by omega)
    simp only[fa,Nat.reduceAdd];rw[v15];clear hv v15
    try simp only[pl]
    have H:=H.call hbw;rw[h8.out]
    cases q8 with
    | true =>
     have E:=EN rfl
     go_wp2_with (first|fail)
     go_ret;exact⟨by rw[E.out];rfl,H.below⟩
    | false =>
     go_upto_region 10 with (first|fail)
     refine ws_ 46 [fun v _=>v=Value.bool (b2),fun v _=>v=Value.bool (b2),fun v _=>v=iT (true) (b2) true (.pointer (some ⟨b4,5,none⟩)),fun v _=>v=iT (true) (b2) true (.int .i64 (x.next)),fun v _=>v=iT (true) (b2) true (.bool (decide ((x.next)<(0)))),fun v _=>v=iT (true) (b2) true (.bool (decide ((x.next)<(0)))),fun v _=>v=iT ((true)&&((b2) == true)) (decide ((x.next)<(0))) false (.pointer (some ⟨b4,5,none⟩)),fun v _=>v=iT ((true)&&((b2) == true)) (decide ((x.next)<(0))) false (.int .i64 (x.next)),fun v _=>v=iT ((true)&&((b2) == true)) (decide ((x.next)<(0))) false (.slice (some ⟨b,off,none⟩) n c),fun v _=>v=iT ((true)&&((b2) == true)) (decide ((x.next)<(0))) false (.int .i64 ((n:Int))),fun v _=>v=iT ((true)&&((b2) == true)) (decide ((x.next)<(0))) false (.bool (decide (((n:Int))≤(x.next)))),fun v _=>v=iT (true) (b2) true (.bool ((decide ((x.next)<(0))) || (decide (((n:Int))≤(x.next))))),fun v _=>v=Value.bool ((b2)&&((decide ((x.next)<(0))) || (decide (((n:Int))≤(x.next))))),fun v _=>v=Value.bool ((b2)&&((decide ((x.next)<(0))) || (decide (((n:Int))≤(x.next))))),fun v _=>v=iT (true) ((b2)&&((decide ((x.next)<(0))) || (decide (((n:Int))≤(x.next))))) false (.bool (b2)),fun v _=>v=iT (true) ((b2)&&((decide ((x.next)<(0))) || (decide (((n:Int))≤(x.next))))) false (.bool (!(b2))),fun v _=>v=iT (true) ((b2)&&((decide ((x.next)<(0))) || (decide (((n:Int))≤(x.next))))) false (.bool (!(b2))),fun v _=>v=iT ((true)&&(((b2)&&((decide ((x.next)<(0))) || (decide (((n:Int))≤(x.next))))) == false)) (!(b2)) true (.pointer (some ⟨b4,5,none⟩)),fun v _=>v=iT ((true)&&(((b2)&&((decide ((x.next)<(0))) || (decide (((n:Int))≤(x.next))))) == false)) (!(b2)) true (.int .i64 (x.next)),fun v _=>v=iT ((true)&&(((b2)&&((decide ((x.next)<(0))) || (decide (((n:Int))≤(x.next))))) == false)) (!(b2)) true (.bool ((x.next) != (0))),fun v _=>v=iT (true) ((b2)&&((decide ((x.next)<(0))) || (decide (((n:Int))≤(x.next))))) false (.bool ((!(b2))&&((x.next) != (0)))),fun v _=>v=Value.bool (((b2)&&((decide ((x.next)<(0))) || (decide (((n:Int))≤(x.next))))) || ((!(b2))&&((x.next) != (0)))),fun v _=>v=Value.bool (((b2)&&((decide ((x.next)<(0))) || (decide (((n:Int))≤(x.next))))) || ((!(b2))&&((x.next) != (0)))),fun v _=>v=iT (true) (((b2)&&((decide ((x.next)<(0))) || (decide (((n:Int))≤(x.next))))) || ((!(b2))&&((x.next) != (0)))) false (.bool (b3)),fun v _=>v=iT (true) (((b2)&&((decide ((x.next)<(0))) || (decide (((n:Int))≤(x.next))))) || ((!(b2))&&((x.next) != (0)))) false (.bool (b3)),fun v _=>v=iT ((true)&&((((b2)&&((decide ((x.next)<(0))) || (decide (((n:Int))≤(x.next))))) || ((!(b2))&&((x.next) != (0)))) == false)) (b3) true (.pointer (some ⟨b4,6,none⟩)),fun v _=>v=iT ((true)&&((((b2)&&((decide ((x.next)<(0))) || (decide (((n:Int))≤(x.next))))) || ((!(b2))&&((x.next) != (0)))) == false)) (b3) true (.int .i64 (x.other)),fun v _=>v=iT ((true)&&((((b2)&&((decide ((x.next)<(0))) || (decide (((n:Int))≤(x.next))))) || ((!(b2))&&((x.next) != (0)))) == false)) (b3) true (.bool (decide ((x.other)<(0)))),fun v _=>v=iT ((true)&&((((b2)&&((decide ((x.next)<(0))) || (decide (((n:Int))≤(x.next))))) || ((!(b2))&&((x.next) != (0)))) == false)) (b3) true (.bool (decide ((x.other)<(0)))),fun v _=>v=iT (((true)&&((((b2)&&((decide ((x.next)<(0))) || (decide (((n:Int))≤(x.next))))) || ((!(b2))&&((x.next) != (0)))) == false))&&((b3) == true)) (decide ((x.other)<(0))) false (.pointer (some ⟨b4,6,none⟩)),fun v _=>v=iT (((true)&&((((b2)&&((decide ((x.next)<(0))) || (decide (((n:Int))≤(x.next))))) || ((!(b2))&&((x.next) != (0)))) == false))&&((b3) == true)) (decide ((x.other)<(0))) false (.int .i64 (x.other)),fun v _=>v=iT (((true)&&((((b2)&&((decide ((x.next)<(0))) || (decide (((n:Int))≤(x.next))))) || ((!(b2))&&((x.next) != (0)))) == false))&&((b3) == true)) (decide ((x.other)<(0))) false (.slice (some ⟨b,off,none⟩) n c),fun v _=>v=iT (((true)&&((((b2)&&((decide ((x.next)<(0))) || (decide (((n:Int))≤(x.next))))) || ((!(b2))&&((x.next) != (0)))) == false))&&((b3) == true)) (decide ((x.other)<(0))) false (.int .i64 ((n:Int))),fun v _=>v=iT (((true)&&((((b2)&&((decide ((x.next)<(0))) || (decide (((n:Int))≤(x.next))))) || ((!(b2))&&((x.next) != (0)))) == false))&&((b3) == true)) (decide ((x.other)<(0))) false (.bool (decide (((n:Int))≤(x.other)))),fun v _=>v=iT ((true)&&((((b2)&&((decide ((x.next)<(0))) || (decide (((n:Int))≤(x.next))))) || ((!(b2))&&((x.next) != (0)))) == false)) (b3) true (.bool ((decide ((x.other)<(0))) || (decide (((n:Int))≤(x.other))))),fun v _=>v=iT (true) (((b2)&&((decide ((x.next)<(0))) || (decide (((n:Int))≤(x.next))))) || ((!(b2))&&((x.next) != (0)))) false (.bool ((b3)&&((decide ((x.other)<(0))) || (decide (((n:Int))≤(x.other)))))),fun v _=>v=Value.bool ((((b2)&&((decide ((x.next)<(0))) || (decide (((n:Int))≤(x.next))))) || ((!(b2))&&((x.next) != (0)))) || ((b3)&&((decide ((x.other)<(0))) || (decide (((n:Int))≤(x.other)))))),fun v _=>v=Value.bool ((((b2)&&((decide ((x.next)<(0))) || (decide (((n:Int))≤(x.next))))) || ((!(b2))&&((x.next) != (0)))) || ((b3)&&((decide ((x.other)<(0))) || (decide (((n:Int))≤(x.other)))))),fun v _=>v=iT (true) ((((b2)&&((decide ((x.next)<(0))) || (decide (((n:Int))≤(x.next))))) || ((!(b2))&&((x.next) != (0)))) || ((b3)&&((decide ((x.other)<(0))) || (decide (((n:Int))≤(x.other)))))) false (.bool (b3)),fun v _=>v=iT (true) ((((b2)&&((decide ((x.next)<(0))) || (decide (((n:Int))≤(x.next))))) || ((!(b2))&&((x.next) != (0)))) || ((b3)&&((decide ((x.other)<(0))) || (decide (((n:Int))≤(x.other)))))) false (.bool (!(b3))),fun v _=>v=iT (true) ((((b2)&&((decide ((x.next)<(0))) || (decide (((n:Int))≤(x.next))))) || ((!(b2))&&((x.next) != (0)))) || ((b3)&&((decide ((x.other)<(0))) || (decide (((n:Int))≤(x.other)))))) false (.bool (!(b3))),fun v _=>v=iT ((true)&&(((((b2)&&((decide ((x.next)<(0))) || (decide (((n:Int))≤(x.next))))) || ((!(b2))&&((x.next) != (0)))) || ((b3)&&((decide ((x.other)<(0))) || (decide (((n:Int))≤(x.other)))))) == false)) (!(b3)) true (.pointer (some ⟨b4,6,none⟩)),fun v _=>v=iT ((true)&&(((((b2)&&((decide ((x.next)<(0))) || (decide (((n:Int))≤(x.next))))) || ((!(b2))&&((x.next) != (0)))) || ((b3)&&((decide ((x.other)<(0))) || (decide (((n:Int))≤(x.other)))))) == false)) (!(b3)) true (.int .i64 (x.other)),fun v _=>v=iT ((true)&&(((((b2)&&((decide ((x.next)<(0))) || (decide (((n:Int))≤(x.next))))) || ((!(b2))&&((x.next) != (0)))) || ((b3)&&((decide ((x.other)<(0))) || (decide (((n:Int))≤(x.other)))))) == false)) (!(b3)) true (.bool ((x.other) != (0))),fun v _=>v=iT (true) ((((b2)&&((decide ((x.next)<(0))) || (decide (((n:Int))≤(x.next))))) || ((!(b2))&&((x.next) != (0)))) || ((b3)&&((decide ((x.other)<(0))) || (decide (((n:Int))≤(x.other)))))) false (.bool ((!(b3))&&((x.other) != (0)))),fun v _=>v=Value.bool (((((b2)&&((decide ((x.next)<(0))) || (decide (((n:Int))≤(x.next))))) || ((!(b2))&&((x.next) != (0)))) || ((b3)&&((decide ((x.other)<(0))) || (decide (((n:Int))≤(x.other)))))) || ((!(b3))&&((x.other) != (0))))] ?ob ?en
     case ob =>
      refine⟨?_,?_,?_,?_,?_,?_,?_,?_,?_,?_,?_,?_,?_,?_,?_,?_,?_,?_,?_,?_,?_,?_,?_,?_,?_,?_,?_,?_,?_,?_,?_,?_,?_,?_,?_,?_,?_,?_,?_,?_,?_,?_,?_,?_,?_,?_,trivial⟩<;>intro A W h
      ·exact zAA rfl (zAN (.inl rfl) (h.f 6))
      ·exact zAA rfl (zAN (.inl rfl) (h.d 0 53))
      ·refine sy_ (h.d 1 54) fun hC=>?_;exact(by have e:A.eval (.tmp 4)=Value.pointer (some ⟨b4,0,none⟩):=h.f 4;simp only[execOp,e];simp[go_sem])
      ·refine sy_ (h.d 1 54) fun hC=>?_;exact zAC rfl (zAD (h.d 2 55) hC) zAH ((H.call h.below).cell (i:=1) i_1 5)
      ·refine sy_ (h.d 1 54) fun hC=>?_;exact(by have e56:A.eval (.tmp 56)=Value.int .i64 (x.next):=zAD (h.d 3 56) hC;simp only[execOp,e56];simp[go_sem])
      ·refine sy_ (h.d 1 54) fun hC=>?_;exact zAN (.inl rfl) (zAD (h.d 4 57) hC)
      ·refine sy_ (h.d 5 58) fun hC=>?_;exact(by have e:A.eval (.tmp 4)=Value.pointer (some ⟨b4,0,none⟩):=h.f 4;simp only[execOp,e];simp[go_sem])
      ·refine sy_ (h.d 5 58) fun hC=>?_;exact zAC rfl (zAD (h.d 6 59) hC) zAH ((H.call h.below).cell (i:=1) i_1 5)
      ·refine sy_ (h.d 5 58) fun hC=>?_;exact zAN (.inl rfl) (h.f 0)
      ·refine sy_ (h.d 5 58) fun hC=>?_;exact(zLX Tryz.underlying22 rfl (zAD (h.d 8 61) hC))
      ·refine sy_ (h.d 5 58) fun hC=>?_;exact(by have e60:A.eval (.tmp 60)=Value.int .i64 (x.next):=zAD (h.d 7 60) hC;have e62:A.eval (.tmp 62)=Value.int .i64 ((n:Int)):=zAD (h.d 9 62) hC;simp only[execOp,e60,e62];simp[go_sem])
      ·refine sy_ (h.d 1 54) fun hC=>?_;exact zCA rfl (zAD (h.d 5 58) hC) (fun hb2=>zAD (h.d 10 63) (by (first|(rw[hC,hb2];rfl)|(rw[hb2];rfl)|simp[hb2,hC])))
      ·exact zAA rfl (zA1 rfl (h.d 1 54) (fun hb2=>zAD (h.d 11 64) (by (first|(rw[hb2];rfl)|simp[hb2]))))
      ·exact zAA rfl (zAN (.inl rfl) (h.d 12 65))
      ·refine sy_ (h.d 13 66) fun hC=>?_;exact zAN (.inl rfl) (h.f 6)
      ·refine sy_ (h.d 13 66) fun hC=>?_;exact(by have e:A.eval (.tmp 67)=Value.bool (b2):=zAD (h.d 14 67) hC;simp only[execOp,e];simp[go_sem])
      ·refine sy_ (h.d 13 66) fun hC=>?_;exact zAN (.inl rfl) (zAD (h.d 15 68) hC)
      ·refine sy_ (h.d 16 69) fun hC=>?_;exact(by have e:A.eval (.tmp 4)=Value.pointer (some ⟨b4,0,none⟩):=h.f 4;simp only[execOp,e];simp[go_sem])
      ·refine sy_ (h.d 16 69) fun hC=>?_;exact zAC rfl (zAD (h.d 17 70) hC) zAH ((H.call h.below).cell (i:=1) i_1 5)
      ·refine sy_ (h.d 16 69) fun hC=>?_;exact(by have e71:A.eval (.tmp 71)=Value.int .i64 (x.next):=zAD (h.d 18 71) hC;simp only[execOp,e71];simp[go_sem])
      ·refine sy_ (h.d 13 66) fun hC=>?_;exact zA1 rfl (zAD (h.d 16 69) hC) (fun hb2=>zAD (h.d 19 72) (by (first|(rw[hC,hb2];rfl)|(rw[hb2];rfl)|simp[hb2,hC])))
      ·exact zAA rfl (zCA rfl (h.d 13 66) (fun hb2=>zAD (h.d 20 73) (by (first|(rw[hb2];rfl)|simp[hb2]))))
      ·exact zAA rfl (zAN (.inl rfl) (h.d 21 74))
      ·refine sy_ (h.d 22 75) fun hC=>?_;exact zAN (.inl rfl) (h.f 7)
      ·refine sy_ (h.d 22 75) fun hC=>?_;exact zAN (.inl rfl) (zAD (h.d 23 76) hC)
      ·refine sy_ (h.d 24 77) fun hC=>?_;exact(by have e:A.eval (.tmp 4)=Value.pointer (some ⟨b4,0,none⟩):=h.f 4;simp only[execOp,e];simp[go_sem])
      ·refine sy_ (h.d 24 77) fun hC=>?_;exact zAC rfl (zAD (h.d 25 78) hC) zAH ((H.call h.below).cell (i:=1) i_1 6)
      ·refine sy_ (h.d 24 77) fun hC=>?_;exact(by have e79:A.eval (.tmp 79)=Value.int .i64 (x.other):=zAD (h.d 26 79) hC;simp only[execOp,e79];simp[go_sem])
      ·refine sy_ (h.d 24 77) fun hC=>?_;exact zAN (.inl rfl) (zAD (h.d 27 80) hC)
      ·refine sy_ (h.d 28 81) fun hC=>?_;exact(by have e:A.eval (.tmp 4)=Value.pointer (some ⟨b4,0,none⟩):=h.f 4;simp only[execOp,e];simp[go_sem])
      ·refine sy_ (h.d 28 81) fun hC=>?_;exact zAC rfl (zAD (h.d 29 82) hC) zAH ((H.call h.below).cell (i:=1) i_1 6)
      ·refine sy_ (h.d 28 81) fun hC=>?_;exact zAN (.inl rfl) (h.f 0)
      ·refine sy_ (h.d 28 81) fun hC=>?_;exact(zLX Tryz.underlying22 rfl (zAD (h.d 31 84) hC))
      ·refine sy_ (h.d 28 81) fun hC=>?_;exact(by have e83:A.eval (.tmp 83)=Value.int .i64 (x.other):=zAD (h.d 30 83) hC;have e85:A.eval (.tmp 85)=Value.int .i64 ((n:Int)):=zAD (h.d 32 85) hC;simp only[execOp,e83,e85];simp[go_sem])
      ·refine sy_ (h.d 24 77) fun hC=>?_;exact zCA rfl (zAD (h.d 28 81) hC) (fun hb2=>zAD (h.d 33 86) (by (first|(rw[hC,hb2];rfl)|(rw[hb2];rfl)|simp[hb2,hC])))
      ·refine sy_ (h.d 22 75) fun hC=>?_;exact zA1 rfl (zAD (h.d 24 77) hC) (fun hb2=>zAD (h.d 34 87) (by (first|(rw[hC,hb2];rfl)|(rw[hb2];rfl)|simp[hb2,hC])))
      ·exact zAA rfl (zCA rfl (h.d 22 75) (fun hb2=>zAD (h.d 35 88) (by (first|(rw[hb2];rfl)|simp[hb2]))))
      ·exact zAA rfl (zAN (.inl rfl) (h.d 36 89))
      ·refine sy_ (h.d 37 90) fun hC=>?_;exact zAN (.inl rfl) (h.f 7)
      ·refine sy_ (h.d 37 90) fun hC=>?_;exact(by have e:A.eval (.tmp 91)=Value.bool (b3):=zAD (h.d 38 91) hC;simp only[execOp,e];simp[go_sem])
      ·refine sy_ (h.d 37 90) fun hC=>?_;exact zAN (.inl rfl) (zAD (h.d 39 92) hC)
      ·refine sy_ (h.d 40 93) fun hC=>?_;exact(by have e:A.eval (.tmp 4)=Value.pointer (some ⟨b4,0,none⟩):=h.f 4;simp only[execOp,e];simp[go_sem])
      ·refine sy_ (h.d 40 93) fun hC=>?_;exact zAC rfl (zAD (h.d 41 94) hC) zAH ((H.call h.below).cell (i:=1) i_1 6)
      ·refine sy_ (h.d 40 93) fun hC=>?_;exact(by have e95:A.eval (.tmp 95)=Value.int .i64 (x.other):=zAD (h.d 42 95) hC;simp only[execOp,e95];simp[go_sem])
      ·refine sy_ (h.d 37 90) fun hC=>?_;exact zA1 rfl (zAD (h.d 40 93) hC) (fun hb2=>zAD (h.d 43 96) (by (first|(rw[hC,hb2];rfl)|(rw[hb2];rfl)|simp[hb2,hC])))
      ·exact zAA rfl (zCA rfl (h.d 37 90) (fun hb2=>zAD (h.d 44 97) (by (first|(rw[hb2];rfl)|simp[hb2]))))
     case en =>
      intro vals W hbw hv _;have v45:vals 45=_:=hv 45 (by omega)
      simp only[fa,Nat.reduceAdd];rw[v45];clear hv v45
      try simp only[pl]
      have H:=H.call hbw;rw[h10.out]
      cases q10 with
      | true =>
       have E:=EN rfl
       go_wp2_with (first|fail)
       go_ret;exact⟨by rw[E.out];rfl,H.below⟩
      | false =>
       go_upto_region 12 with (first|fail)
       refine ws_ 42 [fun v _=>v=Value.bool (b4x),fun v _=>v=Value.bool (b4x),fun v _=>v=iT (true) (b4x) true (.pointer (some ⟨b4,7,none⟩)),fun v _=>v=iT (true) (b4x) true (.int .i64 (x.slot)),fun v _=>v=iT (true) (b4x) true (.bool (decide ((x.slot)<(0)))),fun v _=>v=iT (true) (b4x) true (.bool (decide ((x.slot)<(0)))),fun v _=>v=iT ((true)&&((b4x) == true)) (decide ((x.slot)<(0))) false (.pointer (some ⟨b4,7,none⟩)),fun v _=>v=iT ((true)&&((b4x) == true)) (decide ((x.slot)<(0))) false (.int .i64 (x.slot)),fun v _=>v=iT ((true)&&((b4x) == true)) (decide ((x.slot)<(0))) false (.bool (decide ((41)<(x.slot)))),fun v _=>v=iT (true) (b4x) true (.bool ((decide ((x.slot)<(0))) || (decide ((41)<(x.slot))))),fun v _=>v=Value.bool ((b4x)&&((decide ((x.slot)<(0))) || (decide ((41)<(x.slot))))),fun v _=>v=Value.bool ((b4x)&&((decide ((x.slot)<(0))) || (decide ((41)<(x.slot))))),fun v _=>v=iT (true) ((b4x)&&((decide ((x.slot)<(0))) || (decide ((41)<(x.slot))))) false (.bool (b4x)),fun v _=>v=iT (true) ((b4x)&&((decide ((x.slot)<(0))) || (decide ((41)<(x.slot))))) false (.bool (!(b4x))),fun v _=>v=iT (true) ((b4x)&&((decide ((x.slot)<(0))) || (decide ((41)<(x.slot))))) false (.bool (!(b4x))),fun v _=>v=iT ((true)&&(((b4x)&&((decide ((x.slot)<(0))) || (decide ((41)<(x.slot))))) == false)) (!(b4x)) true (.pointer (some ⟨b4,7,none⟩)),fun v _=>v=iT ((true)&&(((b4x)&&((decide ((x.slot)<(0))) || (decide ((41)<(x.slot))))) == false)) (!(b4x)) true (.int .i64 (x.slot)),fun v _=>v=iT ((true)&&(((b4x)&&((decide ((x.slot)<(0))) || (decide ((41)<(x.slot))))) == false)) (!(b4x)) true (.bool ((x.slot) != (0))),fun v _=>v=iT (true) ((b4x)&&((decide ((x.slot)<(0))) || (decide ((41)<(x.slot))))) false (.bool ((!(b4x))&&((x.slot) != (0)))),fun v _=>v=Value.bool (((b4x)&&((decide ((x.slot)<(0))) || (decide ((41)<(x.slot))))) || ((!(b4x))&&((x.slot) != (0)))),fun v _=>v=Value.bool (((b4x)&&((decide ((x.slot)<(0))) || (decide ((41)<(x.slot))))) || ((!(b4x))&&((x.slot) != (0)))),fun v _=>v=iT (true) (((b4x)&&((decide ((x.slot)<(0))) || (decide ((41)<(x.slot))))) || ((!(b4x))&&((x.slot) != (0)))) false (.bool (b5)),fun v _=>v=iT (true) (((b4x)&&((decide ((x.slot)<(0))) || (decide ((41)<(x.slot))))) || ((!(b4x))&&((x.slot) != (0)))) false (.bool (b5)),fun v _=>v=iT ((true)&&((((b4x)&&((decide ((x.slot)<(0))) || (decide ((41)<(x.slot))))) || ((!(b4x))&&((x.slot) != (0)))) == false)) (b5) true (.pointer (some ⟨b4,8,none⟩)),fun v _=>v=iT ((true)&&((((b4x)&&((decide ((x.slot)<(0))) || (decide ((41)<(x.slot))))) || ((!(b4x))&&((x.slot) != (0)))) == false)) (b5) true (.int .i64 (x.spot)),fun v _=>v=iT ((true)&&((((b4x)&&((decide ((x.slot)<(0))) || (decide ((41)<(x.slot))))) || ((!(b4x))&&((x.slot) != (0)))) == false)) (b5) true (.bool (decide ((x.spot)<(8)))),fun v _=>v=iT ((true)&&((((b4x)&&((decide ((x.slot)<(0))) || (decide ((41)<(x.slot))))) || ((!(b4x))&&((x.slot) != (0)))) == false)) (b5) true (.bool (decide ((x.spot)<(8)))),fun v _=>v=iT (((true)&&((((b4x)&&((decide ((x.slot)<(0))) || (decide ((41)<(x.slot))))) || ((!(b4x))&&((x.slot) != (0)))) == false))&&((b5) == true)) (decide ((x.spot)<(8))) false (.pointer (some ⟨b4,8,none⟩)),fun v _=>v=iT (((true)&&((((b4x)&&((decide ((x.slot)<(0))) || (decide ((41)<(x.slot))))) || ((!(b4x))&&((x.slot) != (0)))) == false))&&((b5) == true)) (decide ((x.spot)<(8))) false (.int .i64 (x.spot)),fun v _=>v=iT (((true)&&((((b4x)&&((decide ((x.slot)<(0))) || (decide ((41)<(x.slot))))) || ((!(b4x))&&((x.slot) != (0)))) == false))&&((b5) == true)) (decide ((x.spot)<(8))) false (.bool (decide ((13)<(x.spot)))),fun v _=>v=iT ((true)&&((((b4x)&&((decide ((x.slot)<(0))) || (decide ((41)<(x.slot))))) || ((!(b4x))&&((x.slot) != (0)))) == false)) (b5) true (.bool ((decide ((x.spot)<(8))) || (decide ((13)<(x.spot))))),fun v _=>v=iT (true) (((b4x)&&((decide ((x.slot)<(0))) || (decide ((41)<(x.slot))))) || ((!(b4x))&&((x.slot) != (0)))) false (.bool ((b5)&&((decide ((x.spot)<(8))) || (decide ((13)<(x.spot)))))),fun v _=>v=Value.bool ((((b4x)&&((decide ((x.slot)<(0))) || (decide ((41)<(x.slot))))) || ((!(b4x))&&((x.slot) != (0)))) || ((b5)&&((decide ((x.spot)<(8))) || (decide ((13)<(x.spot)))))),fun v _=>v=Value.bool ((((b4x)&&((decide ((x.slot)<(0))) || (decide ((41)<(x.slot))))) || ((!(b4x))&&((x.slot) != (0)))) || ((b5)&&((decide ((x.spot)<(8))) || (decide ((13)<(x.spot)))))),fun v _=>v=iT (true) ((((b4x)&&((decide ((x.slot)<(0))) || (decide ((41)<(x.slot))))) || ((!(b4x))&&((x.slot) != (0)))) || ((b5)&&((decide ((x.spot)<(8))) || (decide ((13)<(x.spot)))))) false (.bool (b5)),fun v _=>v=iT (true) ((((b4x)&&((decide ((x.slot)<(0))) || (decide ((41)<(x.slot))))) || ((!(b4x))&&((x.slot) != (0)))) || ((b5)&&((decide ((x.spot)<(8))) || (decide ((13)<(x.spot)))))) false (.bool (!(b5))),fun v _=>v=iT (true) ((((b4x)&&((decide ((x.slot)<(0))) || (decide ((41)<(x.slot))))) || ((!(b4x))&&((x.slot) != (0)))) || ((b5)&&((decide ((x.spot)<(8))) || (decide ((13)<(x.spot)))))) false (.bool (!(b5))),fun v _=>v=iT ((true)&&(((((b4x)&&((decide ((x.slot)<(0))) || (decide ((41)<(x.slot))))) || ((!(b4x))&&((x.slot) != (0)))) || ((b5)&&((decide ((x.spot)<(8))) || (decide ((13)<(x.spot)))))) == false)) (!(b5)) true (.pointer (some ⟨b4,8,none⟩)),fun v _=>v=iT ((true)&&(((((b4x)&&((decide ((x.slot)<(0))) || (decide ((41)<(x.slot))))) || ((!(b4x))&&((x.slot) != (0)))) || ((b5)&&((decide ((x.spot)<(8))) || (decide ((13)<(x.spot)))))) == false)) (!(b5)) true (.int .i64 (x.spot)),fun v _=>v=iT ((true)&&(((((b4x)&&((decide ((x.slot)<(0))) || (decide ((41)<(x.slot))))) || ((!(b4x))&&((x.slot) != (0)))) || ((b5)&&((decide ((x.spot)<(8))) || (decide ((13)<(x.spot)))))) == false)) (!(b5)) true (.bool ((x.spot) != (0))),fun v _=>v=iT (true) ((((b4x)&&((decide ((x.slot)<(0))) || (decide ((41)<(x.slot))))) || ((!(b4x))&&((x.slot) != (0)))) || ((b5)&&((decide ((x.spot)<(8))) || (decide ((13)<(x.spot)))))) false (.bool ((!(b5))&&((x.spot) != (0)))),fun v _=>v=Value.bool (((((b4x)&&((decide ((x.slot)<(0))) || (decide ((41)<(x.slot))))) || ((!(b4x))&&((x.slot) != (0)))) || ((b5)&&((decide ((x.spot)<(8))) || (decide ((13)<(x.spot)))))) || ((!(b5))&&((x.spot) != (0))))] ?ob ?en
       case ob =>
        refine⟨?_,?_,?_,?_,?_,?_,?_,?_,?_,?_,?_,?_,?_,?_,?_,?_,?_,?_,?_,?_,?_,?_,?_,?_,?_,?_,?_,?_,?_,?_,?_,?_,?_,?_,?_,?_,?_,?_,?_,?_,?_,?_,trivial⟩<;>intro A W h
        ·exact zAA rfl (zAN (.inl rfl) (h.f 8))
        ·exact zAA rfl (zAN (.inl rfl) (h.d 0 99))
        ·refine sy_ (h.d 1 100) fun hC=>?_;exact(by have e:A.eval (.tmp 4)=Value.pointer (some ⟨b4,0,none⟩):=h.f 4;simp only[execOp,e];simp[go_sem])
        ·refine sy_ (h.d 1 100) fun hC=>?_;exact zAC rfl (zAD (h.d 2 101) hC) zAH ((H.call h.below).cell (i:=1) i_1 7)
        ·refine sy_ (h.d 1 100) fun hC=>?_;exact(by have e102:A.eval (.tmp 102)=Value.int .i64 (x.slot):=zAD (h.d 3 102) hC;simp only[execOp,e102];simp[go_sem])
        ·refine sy_ (h.d 1 100) fun hC=>?_;exact zAN (.inl rfl) (zAD (h.d 4 103) hC)
        ·refine sy_ (h.d 5 104) fun hC=>?_;exact(by have e:A.eval (.tmp 4)=Value.pointer (some ⟨b4,0,none⟩):=h.f 4;simp only[execOp,e];simp[go_sem])
        ·refine sy_ (h.d 5 104) fun hC=>?_;exact zAC rfl (zAD (h.d 6 105) hC) zAH ((H.call h.below).cell (i:=1) i_1 7)
        ·refine sy_ (h.d 5 104) fun hC=>?_;exact(by have e106:A.eval (.tmp 106)=Value.int .i64 (x.slot):=zAD (h.d 7 106) hC;simp only[execOp,e106];simp[go_sem])
        ·refine sy_ (h.d 1 100) fun hC=>?_;exact zCA rfl (zAD (h.d 5 104) hC) (fun hb2=>zAD (h.d 8 107) (by (first|(rw[hC,hb2];rfl)|(rw[hb2];rfl)|simp[hb2,hC])))
        ·exact zAA rfl (zA1 rfl (h.d 1 100) (fun hb2=>zAD (h.d 9 108) (by (first|(rw[hb2];rfl)|simp[hb2]))))
        ·exact zAA rfl (zAN (.inl rfl) (h.d 10 109))
        ·refine sy_ (h.d 11 110) fun hC=>?_;exact zAN (.inl rfl) (h.f 8)
        ·refine sy_ (h.d 11 110) fun hC=>?_;exact(by have e:A.eval (.tmp 111)=Value.bool (b4x):=zAD (h.d 12 111) hC;simp only[execOp,e];simp[go_sem])
        ·refine sy_ (h.d 11 110) fun hC=>?_;exact zAN (.inl rfl) (zAD (h.d 13 112) hC)
        ·refine sy_ (h.d 14 113) fun hC=>?_;exact(by have e:A.eval (.tmp 4)=Value.pointer (some ⟨b4,0,none⟩):=h.f 4;simp only[execOp,e];simp[go_sem])
        ·refine sy_ (h.d 14 113) fun hC=>?_;exact zAC rfl (zAD (h.d 15 114) hC) zAH ((H.call h.below).cell (i:=1) i_1 7)
        ·refine sy_ (h.d 14 113) fun hC=>?_;exact(by have e115:A.eval (.tmp 115)=Value.int .i64 (x.slot):=zAD (h.d 16 115) hC;simp only[execOp,e115];simp[go_sem])
        ·refine sy_ (h.d 11 110) fun hC=>?_;exact zA1 rfl (zAD (h.d 14 113) hC) (fun hb2=>zAD (h.d 17 116) (by (first|(rw[hC,hb2];rfl)|(rw[hb2];rfl)|simp[hb2,hC])))
        ·exact zAA rfl (zCA rfl (h.d 11 110) (fun hb2=>zAD (h.d 18 117) (by (first|(rw[hb2];rfl)|simp[hb2]))))
        ·exact zAA rfl (zAN (.inl rfl) (h.d 19 118))
        ·refine sy_ (h.d 20 119) fun hC=>?_;exact zAN (.inl rfl) (h.f 9)
        ·refine sy_ (h.d 20 119) fun hC=>?_;exact zAN (.inl rfl) (zAD (h.d 21 120) hC)
        ·refine sy_ (h.d 22 121) fun hC=>?_;exact(by have e:A.eval (.tmp 4)=Value.pointer (some ⟨b4,0,none⟩):=h.f 4;simp only[execOp,e];simp[go_sem])
        ·refine sy_ (h.d 22 121) fun hC=>?_;exact zAC rfl (zAD (h.d 23 122) hC) zAd ((H.call h.below).cell (i:=1) i_1 8)
        ·refine sy_ (h.d 22 121) fun hC=>?_;exact(by have e123:A.eval (.tmp 123)=Value.int .i64 (x.spot):=zAD (h.d 24 123) hC;simp only[execOp,e123];simp[go_sem])
        ·refine sy_ (h.d 22 121) fun hC=>?_;exact zAN (.inl rfl) (zAD (h.d 25 124) hC)
        ·refine sy_ (h.d 26 125) fun hC=>?_;exact(by have e:A.eval (.tmp 4)=Value.pointer (some ⟨b4,0,none⟩):=h.f 4;simp only[execOp,e];simp[go_sem])
        ·refine sy_ (h.d 26 125) fun hC=>?_;exact zAC rfl (zAD (h.d 27 126) hC) zAd ((H.call h.below).cell (i:=1) i_1 8)
        ·refine sy_ (h.d 26 125) fun hC=>?_;exact(by have e127:A.eval (.tmp 127)=Value.int .i64 (x.spot):=zAD (h.d 28 127) hC;simp only[execOp,e127];simp[go_sem])
        ·refine sy_ (h.d 22 121) fun hC=>?_;exact zCA rfl (zAD (h.d 26 125) hC) (fun hb2=>zAD (h.d 29 128) (by (first|(rw[hC,hb2];rfl)|(rw[hb2];rfl)|simp[hb2,hC])))
        ·refine sy_ (h.d 20 119) fun hC=>?_;exact zA1 rfl (zAD (h.d 22 121) hC) (fun hb2=>zAD (h.d 30 129) (by (first|(rw[hC,hb2];rfl)|(rw[hb2];rfl)|simp[hb2,hC])))
        ·exact zAA rfl (zCA rfl (h.d 20 119) (fun hb2=>zAD (h.d 31 130) (by (first|(rw[hb2];rfl)|simp[hb2]))))
        ·exact zAA rfl (zAN (.inl rfl) (h.d 32 131))
        ·refine sy_ (h.d 33 132) fun hC=>?_;exact zAN (.inl rfl) (h.f 9)
        ·refine sy_ (h.d 33 132) fun hC=>?_;exact(by have e:A.eval (.tmp 133)=Value.bool (b5):=zAD (h.d 34 133) hC;simp only[execOp,e];simp[go_sem])
        ·refine sy_ (h.d 33 132) fun hC=>?_;exact zAN (.inl rfl) (zAD (h.d 35 134) hC)
        ·refine sy_ (h.d 36 135) fun hC=>?_;exact(by have e:A.eval (.tmp 4)=Value.pointer (some ⟨b4,0,none⟩):=h.f 4;simp only[execOp,e];simp[go_sem])
        ·refine sy_ (h.d 36 135) fun hC=>?_;exact zAC rfl (zAD (h.d 37 136) hC) zAd ((H.call h.below).cell (i:=1) i_1 8)
        ·refine sy_ (h.d 36 135) fun hC=>?_;exact(by have e137:A.eval (.tmp 137)=Value.int .i64 (x.spot):=zAD (h.d 38 137) hC;simp only[execOp,e137];simp[go_sem])
        ·refine sy_ (h.d 33 132) fun hC=>?_;exact zA1 rfl (zAD (h.d 36 135) hC) (fun hb2=>zAD (h.d 39 138) (by (first|(rw[hC,hb2];rfl)|(rw[hb2];rfl)|simp[hb2,hC])))
        ·exact zAA rfl (zCA rfl (h.d 33 132) (fun hb2=>zAD (h.d 40 139) (by (first|(rw[hb2];rfl)|simp[hb2]))))
       case en =>
        intro vals W hbw hv _;have v41:vals 41=_:=hv 41 (by omega)
        simp only[fa,Nat.reduceAdd];rw[v41];clear hv v41
        try simp only[pl]
        have H:=H.call hbw;rw[h12.out]
        cases q12 with
        | true =>
         have E:=EN rfl
         go_wp2_with (first|fail)
         go_ret;exact⟨by rw[E.out];rfl,H.below⟩
        | false =>
         have E:=EY rfl
         go_wp2_with (first|fail)
         go_roundw
         case rel=>exact⟨j+1,by omega,by go_num,E,H.pick [0] _ (by decide) rfl⟩
         case measure=>simp[intOf];omega
  ·have hjn:j=n:=by omega
   have dj:decide ((j:Int)<(n:Int))=false:=by simp;omega
   have E:=Lib.hid (show zA3 xs=true by
    have h:=EA.out;rw[List.take_of_length_le (by rw[HN.out];omega)]at h
    unfold zA3
    rw[HN.out,h,decide_eq_true (by omega),decide_eq_true (by omega)];rfl)
   clear hp EA hjn
   go_wp2_with (first|fail)
   go_ret;exact⟨by rw[E.out];rfl,H.below⟩
theorem zDc:∀ xs:List Value,zAP (xs.map fun v=>#[v])=xs
 | []=>rfl
 | x::r=>by
  have:=zDc r;simp only[zAP,List.map_cons,List.flatten_cons]at *;rw[this];rfl
theorem zDs {P:Program} {ops:Array Oper} {rest:List Oper} {o:Oper} {a:Act} {w w0:World} {Q:Exit→Act→World→Prop} {l:List Res} {M:Nat→Prop} (hg:Region.wanted o (yielded ops a.tmps)=true) (T:TypeId) (x y:Operand) (ho:o.op=.store T x y) {g i n cap:Nat} (hx:a.eval x=.pointer (some ⟨g,i,none⟩)) {v:Value} (hy:a.eval y=v) (H:HoldG M w0 w l) {j:Nat} {e:TypeId} {xs:List Value}
  (hi:At l j (.row (.slice (some ⟨g,0,none⟩) n cap) e 1 n xs)) (hl:xs.length=n) (hT:zDL P T 1=true) (h1:v.oneCell'=true) (hin:i<n)
  (h:∀ w',HoldG M w0 w' (l.set j (.row (.slice (some ⟨g,0,none⟩) n cap) e 1 n (xs.set i v)))→wpList P ops Q rest (a.put o.dst undef) w'):wpList P ops Q (o::rest) a w:=by
 exact zAx hg fun _ hK=>by
  obtain⟨hlen,⟨hv',_⟩|⟨g',cap',cur,hv',hb,hg',hn,hc,hsz,ht⟩⟩:=H.all j _ hi.get
  ·cases hv'
  ·cases hv'
   have hs:(⟨g,i,none⟩:Addr).add 0=⟨g,i,none⟩:=by rw[Addr.add_mid];rfl
   have hcell:w.cell? ⟨g,i,none⟩=cur[i]?:=by simp[World.cell?,hg']
   have hfr:w.frozen? ⟨g,i,none⟩=false:=by simp[World.frozen?,hg']
   have hisz:i<cur.size:=by omega
   unfold Oper.wp execOp;simp only[ho,hx,hy,Instr.storeAt,Instr.sureAddr,Sem.run_bind,Sem.run_pure,Result.andThen_ok,zDo (P:=P) (w:=w) hT h1 (by rw[hcell];simp[hisz]) hfr hs]
   have hh:=heap_setCell hg' (k:=i) v;refine hK _ _ (h _ (H.upd hi.get (zC3 w g i v) ⟨by rw[List.length_set];exact hlen,.inr ⟨g,cap,_,rfl,hb,hh,hn,hc,?_,?_⟩⟩ (fun _ e=>.inl e)))
   ·simp[hsz]
   ·rw[← ht,Array.toList_setIfInBounds,List.take_set]
end
end Go.Proofs.YtdoflhjhaciepaaGreat
