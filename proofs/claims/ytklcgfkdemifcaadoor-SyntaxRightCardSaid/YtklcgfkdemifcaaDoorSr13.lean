/-
  Laws of walks, and walks.
-/
import Derived.Test.YtklcgfkdemifcaaDoorSr12
import Derived.Test.YtklcgfkdemifcaaDoorSr5
import Derived.Recover
import Derived.RecoverIn
import Derived.Laws.Pointers
set_option linter.unusedVariables false
set_option linter.unusedSimpArgs false
set_option maxRecDepth 100000
set_option maxHeartbeats 16000000
namespace Go.Proofs.YtklcgfkdemifcaaDoor
section
open Go.RowKit Go.Shelf Go.MapKept
open Go.ChangeMaps (setBlock)
attribute [local go_sem] Oper.semAt_some
def zFK:Value→Option Value
 | .int .u8 c=>(zJq c.toNat).map (fun k:Nat=>Value.int .i64 (k:Int))
 | _=>none
def zDL:Array MapEntry:=#[{key:=.int .u8 46,val:=.int .i64 2,born:=0},{key:=.int .u8 94,val:=.int .i64 3,born:=1},{key:=.int .u8 36,val:=.int .i64 4,born:=2},{key:=.int .u8 41,val:=.int .i64 9,born:=3},{key:=.int .u8 124,val:=.int .i64 10,born:=4}]
theorem zKM:zFo (.int .u8) zFK zDL:=by
 constructor
 ·intro e he;simp[zDL]at he;rcases he with rfl|rfl|rfl|rfl|rfl<;>exact⟨rfl,rfl⟩
 ·intro k v hF;unfold zFK at hF;split at hF
  ·rename_i c;have hcs:c.toNat=46∨c.toNat=94∨c.toNat=36∨c.toNat=41∨c.toNat=124:=by
    unfold zJq at hF;split at hF
    ·omega
    ·split at hF
     ·omega
     ·split at hF
      ·omega
      ·split at hF
       ·omega
       ·split at hF
        ·omega
        ·cases hF
   have hc:c=46∨c=94∨c=36∨c=41∨c=124:=by omega
   rcases hc with rfl|rfl|rfl|rfl|rfl
   ·exact⟨zDL[0],by simp[zDL],rfl⟩
   ·exact⟨zDL[1],by simp[zDL],rfl⟩
   ·exact⟨zDL[2],by simp[zDL],rfl⟩
   ·exact⟨zDL[3],by simp[zDL],rfl⟩
   ·exact⟨zDL[4],by simp[zDL],rfl⟩
  ·cases hF
theorem zGM (c:Nat):zFK (.int .u8 c)=(zJq c).map (fun k:Nat=>Value.int .i64 (k:Int)):=by simp[zFK]
theorem zHh (W:World):(zeroValue 54).run Tryd.prog W=.ok (.int .i64 0) W:=by kernel_rfl
theorem zHL (w0:World):Calls Tryd.prog 61 #[] w0 fun e w'=>MapR (.int .u8) zFK w0.heap.size e w'∧Below w0.heap.size w0 w':=by
 have H:=Hold.start w0
 go_enter Tryd.func61,Tryd.ntmps61
 go_wp2_with (first|fail|((with_reducible show @wpList _ _ _ ({dst:=_,op:=Op.makeMap _ _,type:=_,pos:=_,after:=_,guard:=_}::_) _ _);refine zFj wtd_ _ rfl H ?_;clear H;intro mb w H;try simp only[nr]at H)|((with_reducible show @wpList _ _ _ ({dst:=_,op:=Op.insert _ _ _ _,type:=_,pos:=_,after:=_,guard:=_}::_) _ _);refine zG9 wtd_ _ _ _ _ rfl Tryd.underlying110 Tryd.underlying5 rfl rfl rfl H atd_ rfl (by kernel_rfl) ?_;clear H;intro w H;try simp only[nr]at H))
 go_ret;replace H:Hold w0 w [.mp mb zDL 5]:=H;exact⟨⟨mb,zDL,5,rfl,(H.mp .zero).1,(H.mp .zero).2,zKM⟩,H.below⟩
theorem zLa (x:Int) (W:World):(Instr.build 65 #[(1,.int .i64 x)]).run Tryd.prog W=.ok (.agg #[.int .i64 0,.int .i64 x,.int .u64 0,.int .u64 0,.int .u64 0,.int .u64 0,.bool false,.int .i64 0,.int .i64 0,.int .i64 0,.bool false,.bool false,.bool false,.bool false,.bool false,.bool false,.bool false]) W:=by
 simp[go_sem]
theorem zA8 {ops:Array Oper} {rest:List Oper} {o:Oper} {a:Act} {w:World} {Q:Exit→Act→World→Prop} (hg:Region.wanted o (yielded ops a.tmps)=true) (x:Operand) (ho:o.op=.build 65 #[(1,x)]) {i:Nat} (hx:a.eval x=.int .i64 i)
  (h:wpList Tryd.prog ops Q rest (a.put o.dst (zAk {kind:=0,place:=i})) w):wpList Tryd.prog ops Q (o::rest) a w :=
 zAx hg (by simp only[execOp,ho,List.map_toArray,List.map_cons,List.map_nil,hx,Sem.run_bind,zLa];rfl) h
theorem zFq (rb:Nat) (L:Str) (i:Nat) (U:TypeId) (hL:L.length≤2000) (hi:i+1≤L.length) (h92:byt L i=92) {r:Except Nat (Value × Nat)} (hx:zAu (zBT (zBw L i))=r) (w0:World) (hr:w0.heap[rb]?=some (.cells (rdC L (i+1)) U (0,0))) :
  Calls Tryd.prog 55 #[ptrV rb,zAk {kind:=0,place:=i}] w0 (zAz rb L U w0 r):=hx ▸ zL4 rb L i U hL hi h92 w0 hr
theorem zGN (rb:Nat) (L:Str) (i:Nat) (U:TypeId) (hL:L.length≤2000) (hi:i<L.length) (hrb:rb≠0) {r:Except Nat (Value × Nat)} (hx:zAu (zBT (zCZ L i))=r) (w0:World) (hz:MaxL w0) (hr:w0.heap[rb]?=some (.cells (rdC L (i+1)) U (0,0))) :
  Calls Tryd.prog 56 #[ptrV rb,zAk {kind:=0,place:=i}] w0 (zAz rb L U w0 r):=hx ▸ zMc rb L i U hL hi hrb w0 hz hr
theorem zGI (rb:Nat) (L:Str) (i:Nat) (U:TypeId) (hL:L.length≤2000) (hi:i+2≤L.length) {r:Except Nat (Value × Nat)} (hx:zAu (zBT (zBU L i))=r) (w0:World) (hr:w0.heap[rb]?=some (.cells (rdC L (i+2)) U (0,0))) :
  Calls Tryd.prog 58 #[ptrV rb,zAk {kind:=0,place:=i}] w0 (zAz rb L U w0 r):=hx ▸ zL1 rb L i U hL hi w0 hr
theorem zBf (rb:Nat) (L:Str) (i:Nat) (lo hi:Int) (k:Nat) (U:TypeId) (hL:L.length≤2000) (hk:k≤L.length) (hlo:0≤lo∧lo≤101) (hhi : -1≤hi∧hi≤101) {r:Except Nat (Value × Nat)} (hx:zAu (zAj L i lo hi k)=r) (w0:World) (hr:w0.heap[rb]?=some (.cells (rdC L k) U (0,0))) :
  Calls Tryd.prog 60 #[ptrV rb,zAk {kind:=0,place:=i},.int .i64 lo,.int .i64 hi] w0 (zAz rb L U w0 r):=hx ▸ zLB rb L i lo hi k U hL hk hlo hhi w0 hr
theorem zKI {L:Str} {i lo e:Nat} {hi:Int} (h:zC0 L i=some (lo,hi,e)) (hi2:i<L.length):(0≤(lo:Int)∧(lo:Int)≤101)∧(-1≤hi∧hi≤101):=by
 unfold zC0 at h
 cases hn:zDS L (i+1) with
 | none=>rw[hn]at h;cases h
 | some p =>
  obtain⟨n,k⟩:=p;have h1:=zDA hn hi2;rw[hn]at h;simp only[]at h;split at h
  ·cases h;omega
  ·split at h
   ·rename_i h44;have hle:=zDx h44 (by simp)
    simp only[List.length_cons,List.length_nil,Nat.zero_add]at hle
    cases hm:zDS L (k+1) with
    | none=>rw[hm]at h;cases h
    | some q =>
     obtain⟨m,e'⟩:=q;have h2:=zDA hm hle;rw[hm]at h;simp only[]at h;split at h
     ·cases h;omega
     ·cases h
   ·split at h
    ·cases h;omega
    ·cases h
theorem zLe (rb:Nat) (L:Str) (i:Nat) (U:TypeId) (hL:L.length≤2000) (hi:i<L.length) (hrb:rb≠0) (w0:World) (hz:MaxL w0) (hr:w0.heap[rb]?=some (.cells (rdC L i) U (0,0))) :
  Calls Tryd.prog 44 #[ptrV rb] w0 (zAz rb L U w0 (zAu (zBc L i))):=by
 have H:=HoldG.startB hr;have ZZ:∀ W,KeepBut (·=rb) w0.heap.size w0 W→MaxL W:=fun W hk=>hz.keep hrb hk
 have hb:=zDy L i;have hi1:i+1≤L.length:=hi;have E:zBc L i=zBc L i:=rfl
 conv at E=>rhs;unfold zBc
 simp only[]at E
 by_cases hc:byt L i=92
 ·rw[if_pos hc]at E;have e92:((byt L i:Int) == 92)=true:=by rw[beq_iff_eq];omega
  cases hx:zBT (zBw L i) with
  | error n =>
   have E3:=Lib.hid (show zAu (zBc L i)=.error n by rw[E,hx];rfl)
   have hx2:zAu (zBT (zBw L i))=.error n:=by rw[hx];rfl
   clear E hx
   go_enter Tryd.func44,Tryd.ntmps44
   go_wp2_with (first|((first|((with_reducible refine kgA 2 ?_);refine kA 2 H ?_)|((with_reducible refine kgX 2 ?_);(first|refine kS 2 H ?_|refine kB 2 H ?_)));clear H;intro b2 w H;try simp only[nr]at H)|((first|((with_reducible refine kgA 3 ?_);refine kA 3 H ?_)|((with_reducible refine kgX 3 ?_);(first|refine kS 3 H ?_|refine kB 3 H ?_)));clear H;intro b3 w H;try simp only[nr]at H)|(first|((with_reducible refine gT ?_);(refine aT H ?_;clear H;intro w H;try simp only[nr]at H))|((with_reducible refine gL ?_);(first|refine aG H ?_|refine aD H ?_)))|((with_reducible refine gBd ?_);refine zA8 wtd_ _ rfl rfl ?_)|(go_at_call 54;(with_reducible refine(zAI rb L i U hL hi _ (H.blk .zero).2).mono ?_);rintro e w ⟨hk,rfl,hr⟩;replace H:=H.callBut atd_ hk hr;clear hk hr;try simp only[nr]at H)|(go_at_call 55;(with_reducible refine(zFq rb L i U hL hi1 hc hx2 _ (H.blk .zero).2).mono ?_);rintro e w ⟨hk,rfl⟩;exact⟨rfl,zAv E3.out (H.keep.trans (hk.mono H.keep.size (fun _ _ m=>m)))⟩))
  | ok p =>
   obtain⟨d,e⟩:=p;have E3:=Lib.hid (show zAu (zBc L i)=.ok (zAk d,e) by rw[E,hx];rfl)
   have hx2:zAu (zBT (zBw L i))=.ok (zAk d,e):=by rw[hx];rfl
   clear E hx
   go_enter Tryd.func44,Tryd.ntmps44
   go_wp2_with (first|((first|((with_reducible refine kgA 2 ?_);refine kA 2 H ?_)|((with_reducible refine kgX 2 ?_);(first|refine kS 2 H ?_|refine kB 2 H ?_)));clear H;intro b2 w H;try simp only[nr]at H)|((first|((with_reducible refine kgA 3 ?_);refine kA 3 H ?_)|((with_reducible refine kgX 3 ?_);(first|refine kS 3 H ?_|refine kB 3 H ?_)));clear H;intro b3 w H;try simp only[nr]at H)|(first|((with_reducible refine gT ?_);(refine aT H ?_;clear H;intro w H;try simp only[nr]at H))|((with_reducible refine gL ?_);(first|refine aG H ?_|refine aD H ?_)))|((with_reducible refine gBd ?_);refine zA8 wtd_ _ rfl rfl ?_)|(go_at_call 54;(with_reducible refine(zAI rb L i U hL hi _ (H.blk .zero).2).mono ?_);rintro e w ⟨hk,rfl,hr⟩;replace H:=H.callBut atd_ hk hr;clear hk hr;try simp only[nr]at H)|(go_at_call 55;(with_reducible refine(zFq rb L i U hL hi1 hc hx2 _ (H.blk .zero).2).mono ?_);rintro e w ⟨hk,rfl,hr⟩;replace H:=H.callBut atd_ hk hr;clear hk hr;try simp only[nr]at H))
   (refine xc Tryd.results44 H ?_)
   exact zAb E3.out H.keep (H.blk .zero).2
 ·rw[if_neg hc]at E;have n92:((byt L i:Int) == 92)=false:=by rw[beq_eq_false_iff_ne];omega
  have m92:=Lib.hid hc;clear hc
  by_cases hc:byt L i=91
  ·rw[if_pos hc]at E;have e91:((byt L i:Int) == 91)=true:=by rw[beq_iff_eq];omega
   have n92:((byt L i:Int) == 92)=false:=by rw[beq_eq_false_iff_ne];omega
   cases hx:zBT (zCZ L i) with
   | error n =>
    have E3:=Lib.hid (show zAu (zBc L i)=.error n by rw[E,hx];rfl)
    have hx2:zAu (zBT (zCZ L i))=.error n:=by rw[hx];rfl
    clear E hx
    go_enter Tryd.func44,Tryd.ntmps44
    go_wp2_with (first|((first|((with_reducible refine kgA 2 ?_);refine kA 2 H ?_)|((with_reducible refine kgX 2 ?_);(first|refine kS 2 H ?_|refine kB 2 H ?_)));clear H;intro b2 w H;try simp only[nr]at H)|((first|((with_reducible refine kgA 3 ?_);refine kA 3 H ?_)|((with_reducible refine kgX 3 ?_);(first|refine kS 3 H ?_|refine kB 3 H ?_)));clear H;intro b3 w H;try simp only[nr]at H)|(first|((with_reducible refine gT ?_);(refine aT H ?_;clear H;intro w H;try simp only[nr]at H))|((with_reducible refine gL ?_);(first|refine aG H ?_|refine aD H ?_)))|((with_reducible refine gBd ?_);refine zA8 wtd_ _ rfl rfl ?_)|(go_at_call 54;(with_reducible refine(zAI rb L i U hL hi _ (H.blk .zero).2).mono ?_);rintro e w ⟨hk,rfl,hr⟩;replace H:=H.callBut atd_ hk hr;clear hk hr;try simp only[nr]at H)|(go_at_call 56;(with_reducible refine(zGN rb L i U hL hi hrb hx2 _ (ZZ _ H.keep) (H.blk .zero).2).mono ?_);rintro e w ⟨hk,rfl⟩;exact⟨rfl,zAv E3.out (H.keep.trans (hk.mono H.keep.size (fun _ _ m=>m)))⟩))
   | ok p =>
    obtain⟨d,e⟩:=p;have E3:=Lib.hid (show zAu (zBc L i)=.ok (zAk d,e) by rw[E,hx];rfl)
    have hx2:zAu (zBT (zCZ L i))=.ok (zAk d,e):=by rw[hx];rfl
    clear E hx
    go_enter Tryd.func44,Tryd.ntmps44
    go_wp2_with (first|((first|((with_reducible refine kgA 2 ?_);refine kA 2 H ?_)|((with_reducible refine kgX 2 ?_);(first|refine kS 2 H ?_|refine kB 2 H ?_)));clear H;intro b2 w H;try simp only[nr]at H)|((first|((with_reducible refine kgA 3 ?_);refine kA 3 H ?_)|((with_reducible refine kgX 3 ?_);(first|refine kS 3 H ?_|refine kB 3 H ?_)));clear H;intro b3 w H;try simp only[nr]at H)|(first|((with_reducible refine gT ?_);(refine aT H ?_;clear H;intro w H;try simp only[nr]at H))|((with_reducible refine gL ?_);(first|refine aG H ?_|refine aD H ?_)))|((with_reducible refine gBd ?_);refine zA8 wtd_ _ rfl rfl ?_)|(go_at_call 54;(with_reducible refine(zAI rb L i U hL hi _ (H.blk .zero).2).mono ?_);rintro e w ⟨hk,rfl,hr⟩;replace H:=H.callBut atd_ hk hr;clear hk hr;try simp only[nr]at H)|(go_at_call 56;(with_reducible refine(zGN rb L i U hL hi hrb hx2 _ (ZZ _ H.keep) (H.blk .zero).2).mono ?_);rintro e w ⟨hk,rfl,hr⟩;replace H:=H.callBut atd_ hk hr;clear hk hr;try simp only[nr]at H))
    (refine xc Tryd.results44 H ?_)
    exact zAb E3.out H.keep (H.blk .zero).2
  ·rw[if_neg hc]at E;have n91:((byt L i:Int) == 91)=false:=by rw[beq_eq_false_iff_ne];omega
   have m91:=Lib.hid hc;clear hc
   by_cases hc:byt L i=40
   ·rw[if_pos hc]at E;have e40:((byt L i:Int) == 40)=true:=by rw[beq_iff_eq];omega
    have n92:((byt L i:Int) == 92)=false:=by rw[beq_eq_false_iff_ne];omega
    have n91:((byt L i:Int) == 91)=false:=by rw[beq_eq_false_iff_ne];omega
    cases hq:atP L (i+1) [63] with
    | true =>
     rw[hq,if_pos rfl]at E;have hle:=zDx hq (by simp)
     simp only[List.length_cons,List.length_nil,Nat.zero_add]at hle;have SK:=fun w h=>zBZ rb (by simp) U hL hi1 hq w h
     simp only[if_true,List.length_cons,List.length_nil,Nat.zero_add]at SK;clear hq hc
     cases hx:zBT (zBU L i) with
     | error n =>
      have E3:=Lib.hid (show zAu (zBc L i)=.error n by rw[E,hx];rfl)
      have hx2:zAu (zBT (zBU L i))=.error n:=by rw[hx];rfl
      clear E hx
      go_enter Tryd.func44,Tryd.ntmps44
      go_wp2_with (first|((first|((with_reducible refine kgA 2 ?_);refine kA 2 H ?_)|((with_reducible refine kgX 2 ?_);(first|refine kS 2 H ?_|refine kB 2 H ?_)));clear H;intro b2 w H;try simp only[nr]at H)|((first|((with_reducible refine kgA 3 ?_);refine kA 3 H ?_)|((with_reducible refine kgX 3 ?_);(first|refine kS 3 H ?_|refine kB 3 H ?_)));clear H;intro b3 w H;try simp only[nr]at H)|(first|((with_reducible refine gT ?_);(refine aT H ?_;clear H;intro w H;try simp only[nr]at H))|((with_reducible refine gL ?_);(first|refine aG H ?_|refine aD H ?_)))|((with_reducible refine gBd ?_);refine zA8 wtd_ _ rfl rfl ?_)|(go_at_call 54;(with_reducible refine(zAI rb L i U hL hi _ (H.blk .zero).2).mono ?_);rintro e w ⟨hk,rfl,hr⟩;replace H:=H.callBut atd_ hk hr;clear hk hr;try simp only[nr]at H)|(go_at_call 57;(with_reducible refine(SK _ (H.blk .zero).2).mono ?_);rintro e w ⟨hk,rfl,hr⟩;replace H:=H.callBut atd_ hk hr;clear hk hr;try simp only[nr]at H)|(go_at_call 58;(with_reducible refine(zGI rb L i U hL hle hx2 _ (H.blk .zero).2).mono ?_);rintro e w ⟨hk,rfl⟩;exact⟨rfl,zAv E3.out (H.keep.trans (hk.mono H.keep.size (fun _ _ m=>m)))⟩))
     | ok p =>
      obtain⟨d,e⟩:=p;have E3:=Lib.hid (show zAu (zBc L i)=.ok (zAk d,e) by rw[E,hx];rfl)
      have hx2:zAu (zBT (zBU L i))=.ok (zAk d,e):=by rw[hx];rfl
      clear E hx
      go_enter Tryd.func44,Tryd.ntmps44
      go_wp2_with (first|((first|((with_reducible refine kgA 2 ?_);refine kA 2 H ?_)|((with_reducible refine kgX 2 ?_);(first|refine kS 2 H ?_|refine kB 2 H ?_)));clear H;intro b2 w H;try simp only[nr]at H)|((first|((with_reducible refine kgA 3 ?_);refine kA 3 H ?_)|((with_reducible refine kgX 3 ?_);(first|refine kS 3 H ?_|refine kB 3 H ?_)));clear H;intro b3 w H;try simp only[nr]at H)|(first|((with_reducible refine gT ?_);(refine aT H ?_;clear H;intro w H;try simp only[nr]at H))|((with_reducible refine gL ?_);(first|refine aG H ?_|refine aD H ?_)))|((with_reducible refine gBd ?_);refine zA8 wtd_ _ rfl rfl ?_)|(go_at_call 54;(with_reducible refine(zAI rb L i U hL hi _ (H.blk .zero).2).mono ?_);rintro e w ⟨hk,rfl,hr⟩;replace H:=H.callBut atd_ hk hr;clear hk hr;try simp only[nr]at H)|(go_at_call 57;(with_reducible refine(SK _ (H.blk .zero).2).mono ?_);rintro e w ⟨hk,rfl,hr⟩;replace H:=H.callBut atd_ hk hr;clear hk hr;try simp only[nr]at H)|(go_at_call 58;(with_reducible refine(zGI rb L i U hL hle hx2 _ (H.blk .zero).2).mono ?_);rintro e w ⟨hk,rfl,hr⟩;replace H:=H.callBut atd_ hk hr;clear hk hr;try simp only[nr]at H))
      (refine xc Tryd.results44 H ?_)
      exact zAb E3.out H.keep (H.blk .zero).2
    | false =>
     rw[hq,if_neg (by simp)]at E
     have SK:=fun w h=>zBZ rb (by simp) U hL hi1 hq w h
     simp only[Bool.false_eq_true,if_false]at SK;have E3:=Lib.hid (show zAu (zBc L i)=.ok (zAk {kind:=6,place:=i},i+1) by rw[E];rfl)
     clear hq hc E
     go_enter Tryd.func44,Tryd.ntmps44
     go_wp2_with (first|((first|((with_reducible refine kgA 2 ?_);refine kA 2 H ?_)|((with_reducible refine kgX 2 ?_);(first|refine kS 2 H ?_|refine kB 2 H ?_)));clear H;intro b2 w H;try simp only[nr]at H)|((first|((with_reducible refine kgA 3 ?_);refine kA 3 H ?_)|((with_reducible refine kgX 3 ?_);(first|refine kS 3 H ?_|refine kB 3 H ?_)));clear H;intro b3 w H;try simp only[nr]at H)|(first|((with_reducible refine gT ?_);((first|refine aO H ?_|refine aT H ?_);clear H;intro w H;try simp only[nr]at H))|((with_reducible refine gL ?_);(first|refine aG H ?_|refine aD H ?_)))|((with_reducible refine gBd ?_);refine zA8 wtd_ _ rfl rfl ?_)|(go_at_call 54;(with_reducible refine(zAI rb L i U hL hi _ (H.blk .zero).2).mono ?_);rintro e w ⟨hk,rfl,hr⟩;replace H:=H.callBut atd_ hk hr;clear hk hr;try simp only[nr]at H)|(go_at_call 57;(with_reducible refine(SK _ (H.blk .zero).2).mono ?_);rintro e w ⟨hk,rfl,hr⟩;replace H:=H.callBut atd_ hk hr;clear hk hr;try simp only[nr]at H))
     (refine xc Tryd.results44 H ?_)
     exact zAb E3.out H.keep (H.blk .zero).2
   ·rw[if_neg hc]at E;have n40:((byt L i:Int) == 40)=false:=by rw[beq_eq_false_iff_ne];omega
    have m40:=Lib.hid hc;clear hc
    by_cases hc:byt L i=123
    ·rw[if_pos hc]at E;have e123:((byt L i:Int) == 123)=true:=by rw[beq_iff_eq];omega
     have n92:((byt L i:Int) == 92)=false:=by rw[beq_eq_false_iff_ne];omega
     have n91:((byt L i:Int) == 91)=false:=by rw[beq_eq_false_iff_ne];omega
     have n40:((byt L i:Int) == 40)=false:=by rw[beq_eq_false_iff_ne];omega
     have n42:((byt L i:Int) == 42)=false:=by rw[beq_eq_false_iff_ne];omega
     have n43:((byt L i:Int) == 43)=false:=by rw[beq_eq_false_iff_ne];omega
     have n63:((byt L i:Int) == 63)=false:=by rw[beq_eq_false_iff_ne];omega
     cases hbr:zC0 L i with
     | some p =>
      obtain⟨lo,hh,k⟩:=p;rw[hbr]at E;simp only[]at E;have hbi:=zG8 hbr hi;have hbb:=zKI hbr hi;clear hc
      cases hx:zAj L i lo hh k with
      | error n =>
       have E3:=Lib.hid (show zAu (zBc L i)=.error n by rw[E,hx];rfl)
       have hx2:zAu (zAj L i lo hh k)=.error n:=by rw[hx];rfl
       clear E hx
       go_enter Tryd.func44,Tryd.ntmps44
       go_wp2_with (first|((first|((with_reducible refine kgA 2 ?_);refine kA 2 H ?_)|((with_reducible refine kgX 2 ?_);(first|refine kS 2 H ?_|refine kB 2 H ?_)));clear H;intro b2 w H;try simp only[nr]at H)|((first|((with_reducible refine kgA 3 ?_);refine kA 3 H ?_)|((with_reducible refine kgX 3 ?_);(first|refine kS 3 H ?_|refine kB 3 H ?_)));clear H;intro b3 w H;try simp only[nr]at H)|(first|((with_reducible refine gT ?_);(refine aT H ?_;clear H;intro w H;try simp only[nr]at H))|((with_reducible refine gL ?_);(first|refine aG H ?_|refine aD H ?_)))|((with_reducible refine gBd ?_);refine zA8 wtd_ _ rfl rfl ?_)|(go_at_call 54;(with_reducible refine(zAI rb L i U hL hi _ (H.blk .zero).2).mono ?_);rintro e w ⟨hk,rfl,hr⟩;replace H:=H.callBut atd_ hk hr;clear hk hr;try simp only[nr]at H)|((go_at_call 59;(with_reducible refine(zGP rb L i U hL hi1 _ (H.blk .zero).2).mono ?_);rintro e w ⟨v,j,hv,hk,rfl,hr2⟩;unfold zBp at hv;rw[hbr]at hv;obtain⟨rfl,hj⟩:=hv;rw[hj]at hr2;clear hj;replace H:=H.callBut atd_ hk hr2;clear hk hr2;try simp only[nr]at H))|(go_at_call 60;(with_reducible refine(zBf rb L i lo hh k U hL hbi.2 hbb.1 hbb.2 hx2 _ (H.blk .zero).2).mono ?_);rintro e w ⟨hk,rfl⟩;exact⟨rfl,zAv E3.out (H.keep.trans (hk.mono H.keep.size (fun _ _ m=>m)))⟩))
      | ok p =>
       obtain⟨d,e⟩:=p;have E3:=Lib.hid (show zAu (zBc L i)=.ok (zAk d,e) by rw[E,hx];rfl)
       have hx2:zAu (zAj L i lo hh k)=.ok (zAk d,e):=by rw[hx];rfl
       clear E hx
       go_enter Tryd.func44,Tryd.ntmps44
       go_wp2_with (first|((first|((with_reducible refine kgA 2 ?_);refine kA 2 H ?_)|((with_reducible refine kgX 2 ?_);(first|refine kS 2 H ?_|refine kB 2 H ?_)));clear H;intro b2 w H;try simp only[nr]at H)|((first|((with_reducible refine kgA 3 ?_);refine kA 3 H ?_)|((with_reducible refine kgX 3 ?_);(first|refine kS 3 H ?_|refine kB 3 H ?_)));clear H;intro b3 w H;try simp only[nr]at H)|(first|((with_reducible refine gT ?_);(refine aT H ?_;clear H;intro w H;try simp only[nr]at H))|((with_reducible refine gL ?_);(first|refine aG H ?_|refine aD H ?_)))|((with_reducible refine gBd ?_);refine zA8 wtd_ _ rfl rfl ?_)|(go_at_call 54;(with_reducible refine(zAI rb L i U hL hi _ (H.blk .zero).2).mono ?_);rintro e w ⟨hk,rfl,hr⟩;replace H:=H.callBut atd_ hk hr;clear hk hr;try simp only[nr]at H)|((go_at_call 59;(with_reducible refine(zGP rb L i U hL hi1 _ (H.blk .zero).2).mono ?_);rintro e w ⟨v,j,hv,hk,rfl,hr2⟩;unfold zBp at hv;rw[hbr]at hv;obtain⟨rfl,hj⟩:=hv;rw[hj]at hr2;clear hj;replace H:=H.callBut atd_ hk hr2;clear hk hr2;try simp only[nr]at H))|(go_at_call 60;(with_reducible refine(zBf rb L i lo hh k U hL hbi.2 hbb.1 hbb.2 hx2 _ (H.blk .zero).2).mono ?_);rintro e w ⟨hk,rfl,hr⟩;replace H:=H.callBut atd_ hk hr;clear hk hr;try simp only[nr]at H))
       (refine xc Tryd.results44 H ?_)
       exact zAb E3.out H.keep (H.blk .zero).2
     | none =>
      rw[hbr]at E;simp only[]at E;have hF:zFK (.int .u8 (byt L i:Nat))=none:=by rw[zGM,hc];rfl
      have E3:=Lib.hid (show zAu (zBc L i)=.ok (zAk {kind:=1,place:=i,set:=ofS [((byt L i:Nat):Int)]},i+1) by rw[E,hc];rfl)
      clear E hc
      go_enter Tryd.func44,Tryd.ntmps44
      go_wp2_with (first|((first|((with_reducible refine kgA 2 ?_);refine kA 2 H ?_)|((with_reducible refine kgX 2 ?_);(first|refine kS 2 H ?_|refine kB 2 H ?_)));clear H;intro b2 w H;try simp only[nr]at H)|((first|((with_reducible refine kgA 3 ?_);refine kA 3 H ?_)|((with_reducible refine kgX 3 ?_);(first|refine kS 3 H ?_|refine kB 3 H ?_)));clear H;intro b3 w H;try simp only[nr]at H)|(first|((with_reducible refine gT ?_);(first|((first|refine aO H ?_|refine aT H ?_);clear H;intro w H;try simp only[nr]at H)|(refine aN H ?_;clear H;intro w H;(try simp only[nr]at H);try simp only[zBE,nrl]at H)))|((with_reducible refine gL ?_);(first|refine aG H ?_|refine aD H ?_)))|((with_reducible refine gBd ?_);refine zA8 wtd_ _ rfl rfl ?_)|(go_at_call 54;(with_reducible refine(zAI rb L i U hL hi _ (H.blk .zero).2).mono ?_);rintro e w ⟨hk,rfl,hr⟩;replace H:=H.callBut atd_ hk hr;clear hk hr;try simp only[nr]at H)|((go_at_call 59;(with_reducible refine(zGP rb L i U hL hi1 _ (H.blk .zero).2).mono ?_);rintro e w ⟨v,j,hv,hk,rfl,hr2⟩;unfold zBp at hv;rw[hbr]at hv;obtain⟨⟨lo,hh,rfl⟩,hj⟩:=hv;rw[hj]at hr2;clear hj;replace H:=H.callBut atd_ hk hr2;clear hk hr2;try simp only[nr]at H))|(go_at_call 61;(with_reducible refine(zHL _).mono ?_);rintro e w ⟨⟨mb,es,mc,rfl,hmn,hmh,hM⟩,hb⟩;replace H:=H.gainMp hb hmn hmh;clear hb hmn hmh;try simp only[nr]at H)|((with_reducible show @wpList _ _ _ ({dst:=_,op:=Op.lookup _ _ _ true,type:=_,pos:=_,after:=_,guard:=_}::_) _ _);refine zDO wtd_ _ _ _ rfl Tryd.underlying110 Tryd.underlying5 rfl evd_ H atd_ hM (by first|trivial|rfl) ⟨hF,zHh⟩ ?_)|((with_reducible refine gBS ?_);refine zCA wtd_ _ _ _ rfl H (#[.int .u8 (byt L i)]) 5 (by intro W;simp only[ml];(try simp only[pe]);(try unfold setV);simp[go_sem]<;>rfl) ?_;clear H;intro b w H;try simp only[nr]at H)|(go_at_call 28;(with_reducible refine ch (of_1 (byt L i) hb _ _ (H.rdn (cs:=[.int .u8 (byt L i)]) atd_ (by simp) (by simp[maxLen]))) H ?_);clear H;intro w H))
      (refine xc Tryd.results44 H ?_)
      exact zAb E3.out H.keep (H.blk .zero).2
    ·rw[if_neg hc]at E;have n123:((byt L i:Int) == 123)=false:=by rw[beq_eq_false_iff_ne];omega
     have m123:=Lib.hid hc;clear hc
     by_cases hc:byt L i=42
     ·rw[if_pos hc]at E;have e42:((byt L i:Int) == 42)=true:=by rw[beq_iff_eq];omega
      have n92:((byt L i:Int) == 92)=false:=by rw[beq_eq_false_iff_ne];omega
      have n91:((byt L i:Int) == 91)=false:=by rw[beq_eq_false_iff_ne];omega
      have n40:((byt L i:Int) == 40)=false:=by rw[beq_eq_false_iff_ne];omega
      have n123:((byt L i:Int) == 123)=false:=by rw[beq_eq_false_iff_ne];omega
      cases hx:zAj L i 0 (-1) (i+1) with
      | error n =>
       have E3:=Lib.hid (show zAu (zBc L i)=.error n by rw[E,hx];rfl)
       have hx2:zAu (zAj L i 0 (-1) (i+1))=.error n:=by rw[hx];rfl
       clear E hx
       go_enter Tryd.func44,Tryd.ntmps44
       go_wp2_with (first|((first|((with_reducible refine kgA 2 ?_);refine kA 2 H ?_)|((with_reducible refine kgX 2 ?_);(first|refine kS 2 H ?_|refine kB 2 H ?_)));clear H;intro b2 w H;try simp only[nr]at H)|((first|((with_reducible refine kgA 3 ?_);refine kA 3 H ?_)|((with_reducible refine kgX 3 ?_);(first|refine kS 3 H ?_|refine kB 3 H ?_)));clear H;intro b3 w H;try simp only[nr]at H)|(first|((with_reducible refine gT ?_);(refine aT H ?_;clear H;intro w H;try simp only[nr]at H))|((with_reducible refine gL ?_);(first|refine aG H ?_|refine aD H ?_)))|((with_reducible refine gBd ?_);refine zA8 wtd_ _ rfl rfl ?_)|(go_at_call 54;(with_reducible refine(zAI rb L i U hL hi _ (H.blk .zero).2).mono ?_);rintro e w ⟨hk,rfl,hr⟩;replace H:=H.callBut atd_ hk hr;clear hk hr;try simp only[nr]at H)|(go_at_call 60;(with_reducible refine(zBf rb L i 0 (-1) (i+1) U hL hi1 (by omega) (by omega) hx2 _ (H.blk .zero).2).mono ?_);rintro e w ⟨hk,rfl⟩;exact⟨rfl,zAv E3.out (H.keep.trans (hk.mono H.keep.size (fun _ _ m=>m)))⟩))
      | ok p =>
       obtain⟨d,e⟩:=p;have E3:=Lib.hid (show zAu (zBc L i)=.ok (zAk d,e) by rw[E,hx];rfl)
       have hx2:zAu (zAj L i 0 (-1) (i+1))=.ok (zAk d,e):=by rw[hx];rfl
       clear E hx
       go_enter Tryd.func44,Tryd.ntmps44
       go_wp2_with (first|((first|((with_reducible refine kgA 2 ?_);refine kA 2 H ?_)|((with_reducible refine kgX 2 ?_);(first|refine kS 2 H ?_|refine kB 2 H ?_)));clear H;intro b2 w H;try simp only[nr]at H)|((first|((with_reducible refine kgA 3 ?_);refine kA 3 H ?_)|((with_reducible refine kgX 3 ?_);(first|refine kS 3 H ?_|refine kB 3 H ?_)));clear H;intro b3 w H;try simp only[nr]at H)|(first|((with_reducible refine gT ?_);(refine aT H ?_;clear H;intro w H;try simp only[nr]at H))|((with_reducible refine gL ?_);(first|refine aG H ?_|refine aD H ?_)))|((with_reducible refine gBd ?_);refine zA8 wtd_ _ rfl rfl ?_)|(go_at_call 54;(with_reducible refine(zAI rb L i U hL hi _ (H.blk .zero).2).mono ?_);rintro e w ⟨hk,rfl,hr⟩;replace H:=H.callBut atd_ hk hr;clear hk hr;try simp only[nr]at H)|(go_at_call 60;(with_reducible refine(zBf rb L i 0 (-1) (i+1) U hL hi1 (by omega) (by omega) hx2 _ (H.blk .zero).2).mono ?_);rintro e w ⟨hk,rfl,hr⟩;replace H:=H.callBut atd_ hk hr;clear hk hr;try simp only[nr]at H))
       (refine xc Tryd.results44 H ?_)
       exact zAb E3.out H.keep (H.blk .zero).2
     ·rw[if_neg hc]at E;have n42:((byt L i:Int) == 42)=false:=by rw[beq_eq_false_iff_ne];omega
      have m42:=Lib.hid hc;clear hc
      by_cases hc:byt L i=43
      ·rw[if_pos hc]at E;have e43:((byt L i:Int) == 43)=true:=by rw[beq_iff_eq];omega
       have n92:((byt L i:Int) == 92)=false:=by rw[beq_eq_false_iff_ne];omega
       have n91:((byt L i:Int) == 91)=false:=by rw[beq_eq_false_iff_ne];omega
       have n40:((byt L i:Int) == 40)=false:=by rw[beq_eq_false_iff_ne];omega
       have n123:((byt L i:Int) == 123)=false:=by rw[beq_eq_false_iff_ne];omega
       have n42:((byt L i:Int) == 42)=false:=by rw[beq_eq_false_iff_ne];omega
       cases hx:zAj L i 1 (-1) (i+1) with
       | error n =>
        have E3:=Lib.hid (show zAu (zBc L i)=.error n by rw[E,hx];rfl)
        have hx2:zAu (zAj L i 1 (-1) (i+1))=.error n:=by rw[hx];rfl
        clear E hx
        go_enter Tryd.func44,Tryd.ntmps44
        go_wp2_with (first|((first|((with_reducible refine kgA 2 ?_);refine kA 2 H ?_)|((with_reducible refine kgX 2 ?_);(first|refine kS 2 H ?_|refine kB 2 H ?_)));clear H;intro b2 w H;try simp only[nr]at H)|((first|((with_reducible refine kgA 3 ?_);refine kA 3 H ?_)|((with_reducible refine kgX 3 ?_);(first|refine kS 3 H ?_|refine kB 3 H ?_)));clear H;intro b3 w H;try simp only[nr]at H)|(first|((with_reducible refine gT ?_);(refine aT H ?_;clear H;intro w H;try simp only[nr]at H))|((with_reducible refine gL ?_);(first|refine aG H ?_|refine aD H ?_)))|((with_reducible refine gBd ?_);refine zA8 wtd_ _ rfl rfl ?_)|(go_at_call 54;(with_reducible refine(zAI rb L i U hL hi _ (H.blk .zero).2).mono ?_);rintro e w ⟨hk,rfl,hr⟩;replace H:=H.callBut atd_ hk hr;clear hk hr;try simp only[nr]at H)|(go_at_call 60;(with_reducible refine(zBf rb L i 1 (-1) (i+1) U hL hi1 (by omega) (by omega) hx2 _ (H.blk .zero).2).mono ?_);rintro e w ⟨hk,rfl⟩;exact⟨rfl,zAv E3.out (H.keep.trans (hk.mono H.keep.size (fun _ _ m=>m)))⟩))
       | ok p =>
        obtain⟨d,e⟩:=p;have E3:=Lib.hid (show zAu (zBc L i)=.ok (zAk d,e) by rw[E,hx];rfl)
        have hx2:zAu (zAj L i 1 (-1) (i+1))=.ok (zAk d,e):=by rw[hx];rfl
        clear E hx
        go_enter Tryd.func44,Tryd.ntmps44
        go_wp2_with (first|((first|((with_reducible refine kgA 2 ?_);refine kA 2 H ?_)|((with_reducible refine kgX 2 ?_);(first|refine kS 2 H ?_|refine kB 2 H ?_)));clear H;intro b2 w H;try simp only[nr]at H)|((first|((with_reducible refine kgA 3 ?_);refine kA 3 H ?_)|((with_reducible refine kgX 3 ?_);(first|refine kS 3 H ?_|refine kB 3 H ?_)));clear H;intro b3 w H;try simp only[nr]at H)|(first|((with_reducible refine gT ?_);(refine aT H ?_;clear H;intro w H;try simp only[nr]at H))|((with_reducible refine gL ?_);(first|refine aG H ?_|refine aD H ?_)))|((with_reducible refine gBd ?_);refine zA8 wtd_ _ rfl rfl ?_)|(go_at_call 54;(with_reducible refine(zAI rb L i U hL hi _ (H.blk .zero).2).mono ?_);rintro e w ⟨hk,rfl,hr⟩;replace H:=H.callBut atd_ hk hr;clear hk hr;try simp only[nr]at H)|(go_at_call 60;(with_reducible refine(zBf rb L i 1 (-1) (i+1) U hL hi1 (by omega) (by omega) hx2 _ (H.blk .zero).2).mono ?_);rintro e w ⟨hk,rfl,hr⟩;replace H:=H.callBut atd_ hk hr;clear hk hr;try simp only[nr]at H))
        (refine xc Tryd.results44 H ?_)
        exact zAb E3.out H.keep (H.blk .zero).2
      ·rw[if_neg hc]at E;have n43:((byt L i:Int) == 43)=false:=by rw[beq_eq_false_iff_ne];omega
       have m43:=Lib.hid hc;clear hc
       by_cases hc:byt L i=63
       ·rw[if_pos hc]at E;have e63:((byt L i:Int) == 63)=true:=by rw[beq_iff_eq];omega
        have n92:((byt L i:Int) == 92)=false:=by rw[beq_eq_false_iff_ne];omega
        have n91:((byt L i:Int) == 91)=false:=by rw[beq_eq_false_iff_ne];omega
        have n40:((byt L i:Int) == 40)=false:=by rw[beq_eq_false_iff_ne];omega
        have n123:((byt L i:Int) == 123)=false:=by rw[beq_eq_false_iff_ne];omega
        have n42:((byt L i:Int) == 42)=false:=by rw[beq_eq_false_iff_ne];omega
        have n43:((byt L i:Int) == 43)=false:=by rw[beq_eq_false_iff_ne];omega
        cases hx:zAj L i 0 1 (i+1) with
        | error n =>
         have E3:=Lib.hid (show zAu (zBc L i)=.error n by rw[E,hx];rfl)
         have hx2:zAu (zAj L i 0 1 (i+1))=.error n:=by rw[hx];rfl
         clear E hx
         go_enter Tryd.func44,Tryd.ntmps44
         go_wp2_with (first|((first|((with_reducible refine kgA 2 ?_);refine kA 2 H ?_)|((with_reducible refine kgX 2 ?_);(first|refine kS 2 H ?_|refine kB 2 H ?_)));clear H;intro b2 w H;try simp only[nr]at H)|((first|((with_reducible refine kgA 3 ?_);refine kA 3 H ?_)|((with_reducible refine kgX 3 ?_);(first|refine kS 3 H ?_|refine kB 3 H ?_)));clear H;intro b3 w H;try simp only[nr]at H)|(first|((with_reducible refine gT ?_);(refine aT H ?_;clear H;intro w H;try simp only[nr]at H))|((with_reducible refine gL ?_);(first|refine aG H ?_|refine aD H ?_)))|((with_reducible refine gBd ?_);refine zA8 wtd_ _ rfl rfl ?_)|(go_at_call 54;(with_reducible refine(zAI rb L i U hL hi _ (H.blk .zero).2).mono ?_);rintro e w ⟨hk,rfl,hr⟩;replace H:=H.callBut atd_ hk hr;clear hk hr;try simp only[nr]at H)|(go_at_call 60;(with_reducible refine(zBf rb L i 0 1 (i+1) U hL hi1 (by omega) (by omega) hx2 _ (H.blk .zero).2).mono ?_);rintro e w ⟨hk,rfl⟩;exact⟨rfl,zAv E3.out (H.keep.trans (hk.mono H.keep.size (fun _ _ m=>m)))⟩))
        | ok p =>
         obtain⟨d,e⟩:=p;have E3:=Lib.hid (show zAu (zBc L i)=.ok (zAk d,e) by rw[E,hx];rfl)
         have hx2:zAu (zAj L i 0 1 (i+1))=.ok (zAk d,e):=by rw[hx];rfl
         clear E hx
         go_enter Tryd.func44,Tryd.ntmps44
         go_wp2_with (first|((first|((with_reducible refine kgA 2 ?_);refine kA 2 H ?_)|((with_reducible refine kgX 2 ?_);(first|refine kS 2 H ?_|refine kB 2 H ?_)));clear H;intro b2 w H;try simp only[nr]at H)|((first|((with_reducible refine kgA 3 ?_);refine kA 3 H ?_)|((with_reducible refine kgX 3 ?_);(first|refine kS 3 H ?_|refine kB 3 H ?_)));clear H;intro b3 w H;try simp only[nr]at H)|(first|((with_reducible refine gT ?_);(refine aT H ?_;clear H;intro w H;try simp only[nr]at H))|((with_reducible refine gL ?_);(first|refine aG H ?_|refine aD H ?_)))|((with_reducible refine gBd ?_);refine zA8 wtd_ _ rfl rfl ?_)|(go_at_call 54;(with_reducible refine(zAI rb L i U hL hi _ (H.blk .zero).2).mono ?_);rintro e w ⟨hk,rfl,hr⟩;replace H:=H.callBut atd_ hk hr;clear hk hr;try simp only[nr]at H)|(go_at_call 60;(with_reducible refine(zBf rb L i 0 1 (i+1) U hL hi1 (by omega) (by omega) hx2 _ (H.blk .zero).2).mono ?_);rintro e w ⟨hk,rfl,hr⟩;replace H:=H.callBut atd_ hk hr;clear hk hr;try simp only[nr]at H))
         (refine xc Tryd.results44 H ?_)
         exact zAb E3.out H.keep (H.blk .zero).2
       ·rw[if_neg hc]at E;have n63:((byt L i:Int) == 63)=false:=by rw[beq_eq_false_iff_ne];omega
        have m63:=Lib.hid hc;clear hc
        cases hs:zJq (byt L i) with
        | some k =>
         have hF:zFK (.int .u8 (byt L i:Nat))=some (.int .i64 (k:Int)):=by rw[zGM,hs];rfl
         have E3:=Lib.hid (show zAu (zBc L i)=.ok (zAk {kind:=k,place:=i},i+1) by rw[E,hs];rfl)
         clear E hs
         go_enter Tryd.func44,Tryd.ntmps44
         go_wp2_with (first|((first|((with_reducible refine kgA 2 ?_);refine kA 2 H ?_)|((with_reducible refine kgX 2 ?_);(first|refine kS 2 H ?_|refine kB 2 H ?_)));clear H;intro b2 w H;try simp only[nr]at H)|((first|((with_reducible refine kgA 3 ?_);refine kA 3 H ?_)|((with_reducible refine kgX 3 ?_);(first|refine kS 3 H ?_|refine kB 3 H ?_)));clear H;intro b3 w H;try simp only[nr]at H)|(first|((with_reducible refine gT ?_);((first|refine aO H ?_|refine aT H ?_);clear H;intro w H;try simp only[nr]at H))|((with_reducible refine gL ?_);(first|refine aG H ?_|refine aD H ?_)))|((with_reducible refine gBd ?_);refine zA8 wtd_ _ rfl rfl ?_)|(go_at_call 54;(with_reducible refine(zAI rb L i U hL hi _ (H.blk .zero).2).mono ?_);rintro e w ⟨hk,rfl,hr⟩;replace H:=H.callBut atd_ hk hr;clear hk hr;try simp only[nr]at H)|(go_at_call 61;(with_reducible refine(zHL _).mono ?_);rintro e w ⟨⟨mb,es,mc,rfl,hmn,hmh,hM⟩,hb⟩;replace H:=H.gainMp hb hmn hmh;clear hb hmn hmh;try simp only[nr]at H)|((with_reducible show @wpList _ _ _ ({dst:=_,op:=Op.lookup _ _ _ true,type:=_,pos:=_,after:=_,guard:=_}::_) _ _);refine zEc wtd_ _ _ _ rfl Tryd.underlying110 Tryd.underlying5 rfl evd_ H atd_ hM (by first|trivial|rfl) hF ?_))
         (refine xc Tryd.results44 H ?_)
         exact zAb E3.out H.keep (H.blk .zero).2
        | none =>
         have hF:zFK (.int .u8 (byt L i:Nat))=none:=by rw[zGM,hs];rfl
         have E3:=Lib.hid (show zAu (zBc L i)=.ok (zAk {kind:=1,place:=i,set:=ofS [((byt L i:Nat):Int)]},i+1) by rw[E,hs];rfl)
         clear E hs
         go_enter Tryd.func44,Tryd.ntmps44
         go_wp2_with (first|((first|((with_reducible refine kgA 2 ?_);refine kA 2 H ?_)|((with_reducible refine kgX 2 ?_);(first|refine kS 2 H ?_|refine kB 2 H ?_)));clear H;intro b2 w H;try simp only[nr]at H)|((first|((with_reducible refine kgA 3 ?_);refine kA 3 H ?_)|((with_reducible refine kgX 3 ?_);(first|refine kS 3 H ?_|refine kB 3 H ?_)));clear H;intro b3 w H;try simp only[nr]at H)|(first|((with_reducible refine gT ?_);(first|((first|refine aO H ?_|refine aT H ?_);clear H;intro w H;try simp only[nr]at H)|(refine aN H ?_;clear H;intro w H;(try simp only[nr]at H);try simp only[zBE,nrl]at H)))|((with_reducible refine gL ?_);(first|refine aG H ?_|refine aD H ?_)))|((with_reducible refine gBd ?_);refine zA8 wtd_ _ rfl rfl ?_)|(go_at_call 54;(with_reducible refine(zAI rb L i U hL hi _ (H.blk .zero).2).mono ?_);rintro e w ⟨hk,rfl,hr⟩;replace H:=H.callBut atd_ hk hr;clear hk hr;try simp only[nr]at H)|(go_at_call 61;(with_reducible refine(zHL _).mono ?_);rintro e w ⟨⟨mb,es,mc,rfl,hmn,hmh,hM⟩,hb⟩;replace H:=H.gainMp hb hmn hmh;clear hb hmn hmh;try simp only[nr]at H)|((with_reducible show @wpList _ _ _ ({dst:=_,op:=Op.lookup _ _ _ true,type:=_,pos:=_,after:=_,guard:=_}::_) _ _);refine zDO wtd_ _ _ _ rfl Tryd.underlying110 Tryd.underlying5 rfl evd_ H atd_ hM (by first|trivial|rfl) ⟨hF,zHh⟩ ?_)|((with_reducible refine gBS ?_);refine zCA wtd_ _ _ _ rfl H (#[.int .u8 (byt L i)]) 5 (by intro W;simp only[ml];(try simp only[pe]);(try unfold setV);simp[go_sem]<;>rfl) ?_;clear H;intro b w H;try simp only[nr]at H)|(go_at_call 28;(with_reducible refine ch (of_1 (byt L i) hb _ _ (H.rdn (cs:=[.int .u8 (byt L i)]) atd_ (by simp) (by simp[maxLen]))) H ?_);clear H;intro w H))
         (refine xc Tryd.results44 H ?_)
         exact zAb E3.out H.keep (H.blk .zero).2
end
section
open Go.RowKit Go.Shelf Go.MapKept
attribute [local go_sem] Oper.semAt_some
def HdL (L:Str) (U:TypeId) (b2 b3 b4 b5 rb pb:Nat) (v:Value) (ws:List WordD) (p i:Nat):List Res :=
 [.blk rb (rdC L i) U,.blk pb #[ptrV rb] 80,.blk b2 #[v] 47,.blk b3 #[.int .i64 p] 3,.blk b4 #[.int .i64 0] 32,.blk b5 #[ptrV rb] 80,.row v 65 17 ws.length (zHS ws)]
def Hd (w0:World) (L:Str) (U:TypeId) (b2 b3 b4 b5 rb pb:Nat) (ws:List WordD) (p i:Nat) (W:World):Prop:=∃ v,Hold w0 W (HdL L U b2 b3 b4 b5 rb pb v ws p i)
def WInv (L:Str) (ws:List WordD) (i:Nat):Prop:=i≤L.length∧ws.length≤i∧∃ f,zFQ L=wcat ws (zA9 L f i)∧L.length≤f+i
theorem zBq {B:Nat} {W W':World} (h:Below W.heap.size W W'):KeepsFrom B W W':=⟨h.size,fun k o _ hk _=>(h.block k (Array.getElem?_eq_some_iff.1 hk).1).trans hk⟩
theorem zDv {rb B:Nat} {W W':World} (hb:rb<B) (h:KeepBut (·=rb) W.heap.size W W'):KeepsFrom B W W':=⟨h.size,fun k o hB hk _=>(h.old k (Array.getElem?_eq_some_iff.1 hk).1 (by omega)).trans hk⟩
section
variable {P:Program} {ops:Array Oper} {o:Oper} {a:Act} {w:World} {Q:Exit→Act→World→Prop} {T:World→Prop}
theorem zKt {rb:Nat} {L:Str} {U:TypeId} {f:FuncId} {xs:Array Operand} {ts:Array TypeId} {vs:Array Value} {v:Value} {j:Nat} (hg:Region.wanted o (yielded ops a.tmps)=true)
  (hop:o.op=Op.call {callee:=Callee.value (Operand.func f),args:=xs,argTypes:=ts}) (hf:∀ args w,(callFunc f args).run P w=.ok (.enter f args) w) (hx:xs.map a.eval=vs)
  (hc:Calls P f vs w (zAz rb L U w (.ok (v,j)))) (hT:∀ w',KeepBut (·=rb) w.heap.size w w'→w'.heap[rb]?=some (.cells (rdC L j) U (0,0))→T w'):QStepX P ops (fun _ _=>True) Q o a w (fun v' w'=>v'=v∧T w'):=by
 unfold QStepX;rw[if_pos hg];unfold Oper.wp;have hr:(execOp a.eval o).run P w=.ok (.enter f vs) w:=by
  simp only[execOp,hop];simp[resolve,hx];rw[show a.eval (Operand.func f)=.func (.func f) #[] #[] from rfl]
  simp[go_sem];exact hf _ _
 rw[hr];simp only[Oper.upon];refine hc.mono ?_
 rintro e w' ⟨hk,rfl,hr'⟩;exact⟨v,rfl,trivial,rfl,hT w' hk hr'⟩
theorem zJh {rb n:Nat} {L:Str} {U:TypeId} {f:FuncId} {xs:Array Operand} {ts:Array TypeId} {vs:Array Value} {S:Value→World→Prop} (hg:Region.wanted o (yielded ops a.tmps)=true)
  (hop:o.op=Op.call {callee:=Callee.value (Operand.func f),args:=xs,argTypes:=ts}) (hf:∀ args w,(callFunc f args).run P w=.ok (.enter f args) w) (hx:xs.map a.eval=vs)
  (hc:Calls P f vs w (zAz rb L U w (.error n))) (hQ:∀ w',KeepBut (·=rb) w.heap.size w w'→Q (.panic (zEC n)) a w'):QStepX P ops (fun _ _=>True) Q o a w S:=by
 unfold QStepX;rw[if_pos hg];unfold Oper.wp;have hr:(execOp a.eval o).run P w=.ok (.enter f vs) w:=by
  simp only[execOp,hop];simp[resolve,hx];rw[show a.eval (Operand.func f)=.func (.func f) #[] #[] from rfl]
  simp[go_sem];exact hf _ _
 rw[hr];simp only[Oper.upon];refine hc.mono ?_
 rintro e w' ⟨hk,rfl⟩;exact hQ w' hk
theorem zMs {m l:Nat} {x y:Operand} {ts:Array TypeId} {v:Value} (hg:Region.wanted o (yielded ops a.tmps)=true) (hop:o.op=Op.call {callee:=Callee.value x,args:=#[y],argTypes:=ts})
  (hx:a.eval x=.func (.yield l) #[] #[]) (hy:a.eval y=v) (hY:YieldAt Fence.wide (m - 1) P l #[v] w fun e W'=>e=.returned (.bool true)∧T W'):zFG m P ops (fun _ _=>True) Q o a w (fun v' w'=>v'=.bool true∧T w'):=by
 obtain⟨fn,tmps,assign,body,hyr,hR⟩:=hY;unfold zFG;rw[if_pos hg];refine⟨fun _ _=>trivial,?_⟩
 rw[show o.semAt Fence.wide.round a.eval=execOp a.eval o from rfl]
 have hr:(execOp a.eval o).run P w=.ok (.round l fn tmps assign body) w:=by
  simp only[execOp,hop];simp only[resolve,hx,List.map_toArray,List.map_cons,List.map_nil,hy,Sem.run_bind,Sem.run_pure,Result.andThen_ok,invoke];exact hyr
 rw[hr];simp only[Oper.uponIn];refine⟨fun h=>by simp[Fence.wide]at h,hR.mono ?_⟩
 rintro e w' ⟨rfl,hT⟩;exact⟨_,rfl,trivial,rfl,hT⟩
end
theorem HoldG.tailBut {M:Nat→Prop} {w0 W W':World} {rb:Nat} {cs:Array Value} {U:TypeId} {l:List Res} (H:HoldG M w0 W (.blk rb cs U::l)) (hk:KeepBut (·=rb) W.heap.size W W'):HoldG M w0 W' l:=by
 have h0:=H.blk .zero;refine⟨H.keep.trans ⟨hk.os,hk.tape,hk.output,hk.size,fun k h1 h2=>hk.old k (Nat.lt_of_lt_of_le h1 H.keep.size) (fun e=>?_)⟩,fun i r h=>?_,fun i j r s hij h1 h2=>H.apart (i+1) (j+1) r s (by omega) (by simpa using h1) (by simpa using h2)⟩
 ·subst e;rcases h0.1 with h|h
  ·omega
  ·exact h2 h
 ·have h':(Res.blk rb cs U::l)[i+1]?=some r:=by simpa using h
  refine(H.all (i+1) r h').kept (fun b hb=>hk.old b ((H.all (i+1) r h').ltf b hb) (fun e=>?_)) hk.size
  subst e;exact H.apart 0 (i+1) _ r (by omega) rfl h' b rfl hb
def wsS (ws:List WordD) (d:WordD):Nat→List WordD|0=>ws|1=>ws|_=>ws++[d]
def pS (i j:Nat):Nat→Nat|0=>i|1=>i|_=>j
def iS (i j:Nat):Nat→Nat|0=>i|1=>j|_=>j
theorem BelR.any (u v:World) (_:BelR u v):True:=trivial
theorem zMp (w0:World) (L:Str) (U:TypeId) (b2 b3 b4 b5 rb pb:Nat) (hL:L.length≤1000)  (hrb:rb≠0) (hz:MaxL w0) (l:Nat) (B:World→Prop) (base:Nat) (hb:rb<base) (hB:∀ W W',KeepsFrom base W W'→B W→B W')
  (hY:∀ (ws:List WordD) (i j:Nat) (d:WordD) W1,i<L.length→WInv L ws i→zBc L i=.ok (d,j)→Hd w0 L U b2 b3 b4 b5 rb pb ws i j W1→B W1→YieldAt Fence.wide 7 Tryd.prog l #[zAk d] W1 fun e W'=>e=.returned (.bool true)∧Hd w0 L U b2 b3 b4 b5 rb pb (ws++[d]) j j W'∧B W')
  (W:World) (h0:Hd w0 L U b2 b3 b4 b5 rb pb [] 0 0 W) (hB0:B W) :
  CallsIn Fence.wide 8 Tryd.prog 43 #[.func (.yield l) #[] #[],.pointer (some ⟨pb,0,none⟩)] W fun e W'=>B W'∧((∃ v,e=.returned v∧∃ ws p,zFQ L=.ok ws∧Hd w0 L U b2 b3 b4 b5 rb pb ws p p W') ∨
   ∃ ch,e=.panicked ch∧∃ ws p x v,ch=zEC x∧zFQ L=.error (p,x)∧(x=4∨x=6)∧Hold w0 W' (HdL L U b2 b3 b4 b5 rb pb v ws p 0).tail):=by
 refine callsIn_of_wp Tryd.func43 rfl trivial ?_ rfl;simp only[Tryd.ntmps43,List.size_toArray,List.length_cons,List.length_nil,Nat.reduceAdd,Nat.reduceSub,Array.replicate_succ,Array.replicate_zero,List.push_toArray,List.append_toArray,List.nil_append,List.cons_append]
 gi_wp2
 have HY:=Lib.hid hY;clear hY;have HB:=Lib.hid hB;clear hB
 gi_loopw [3] (fun _ wr=>∃ (ws:List WordD) (i:Nat),Hid (WInv L ws i∧Hd w0 L U b2 b3 b4 b5 rb pb ws i i wr∧B wr)) (fun _ wr=>L.length+1 - zJi rb wr)
 case atStart=>exact⟨[],0,Lib.hid ⟨⟨Nat.zero_le _,Nat.le_refl _,L.length,(zMh _).symm,by omega⟩,h0,hB0⟩⟩
 case round =>
  clear h0 hB0;obtain⟨ws,i,G⟩:=hrel;have HZ:=Lib.hid hz;clear hz;have hpos:zJi rb wr=i:=by obtain⟨_,⟨v,H⟩,_⟩:=G.out;exact zBD (H.blk .zero).2
  by_cases hlt:i<L.length
  ·cases hw:zBc L i with
   | error x =>
    have hwd:=fun w hz hr=>(by have:=zLe rb L i U (by omega) hlt hrb w hz hr;rw[hw]at this;exact this:Calls Tryd.prog 44 #[ptrV rb] w (zAz rb L U w (.error x)))
    have HX:=Lib.hid (zHj hw)
    have HE:=Lib.hid (show zFQ L=.error (i,x) by
     obtain⟨⟨_,_,f,e,hf⟩,_⟩:=G.out;obtain⟨f',rfl⟩:∃ f',f=f'+1:=⟨f - 1,by omega⟩
     rw[e,zLW hlt hw])
    clear hw
    gi_wp2_with fail
    refine zCj BelR (fun _ _=>True) [15,16] (fun _ W=>Hd w0 L U b2 b3 b4 b5 rb pb ws i i W∧B W) (fun _ _ _=>trivial) (fun r u v ⟨⟨x,H⟩,hBW⟩ hbel=>⟨⟨x,H.call hbel⟩,HB.out _ _ (zBq hbel) hBW⟩) BelR.drew BelR.refl (fun _ _ _ _ _=>trivial) 8 18 rfl [fun v _=>v=ptrV rb,fun v _=>v=ptrV rb,fun v _=>v=ptrV rb,fun v _=>v=pt rb 1,fun v _=>v=.int .i64 (i:Int),fun v _=>v=ptrV rb,fun v _=>v=ptrV rb,fun v _=>v=ptrV rb,fun v _=>v=ptrV rb,fun v _=>v=.string ⟨L.toArray⟩,fun v _=>v=.int .i64 (L.length:Int),fun v _=>v=.bool true,fun v _=>v=.bool true,fun v _=>v=.func (.yield l) #[] #[],fun v _=>v=ptrV rb,fun _ _=>False,fun _ _=>False,fun _ _=>False] ⟨zAA _,zAA _,zAA _,zAA _,zAA _,zAA _,zAA _,zAA _,zAA _,zAA _,zAA _,zAA _,zAA _,zAA _,zAA _,fun _ _ _ h _=>h,fun _ _ _ h _=>h,fun _ _ _ h _=>h,trivial⟩ (by kernel_rfl) ⟨G.out.2.1,G.out.2.2⟩ (by kernel_rfl) (by kernel_rfl) (by kernel_rfl) ?ob ?en
    case ob =>
     refine⟨?_,?_,?_,?_,?_,?_,?_,?_,?_,?_,?_,?_,?_,?_,?_,?_,?_,?_,trivial⟩
     ·intro A W h r hS hr;have hr0:r=0:=Nat.le_zero.1 (hr 0 15 rfl (by kernel_rfl));subst hr0;obtain⟨⟨x,H⟩,_⟩:=hS;exact zAG BelR.refl rfl (zA7 rfl zCQ (h.f 1) ((H.cell i_1 0).trans rfl))
     ·intro A W h r hS hr;have e3:A.eval (.tmp 3)=ptrV rb:=h.d 0 3;refine zAG BelR.refl rfl ?_;simp only[execOp,e3];(simp[go_sem])
     ·intro A W h r hS hr;have e4:A.eval (.tmp 4)=ptrV rb:=h.d 1 4;refine zAG BelR.refl rfl ?_;simp only[execOp,e4];(simp[go_sem])
     ·intro A W h r hS hr;have e5:A.eval (.tmp 5)=ptrV rb:=h.d 2 5;refine zAG BelR.refl rfl ?_;simp only[execOp,e5];(simp[go_sem])
     ·intro A W h r hS hr;have hr0:r=0:=Nat.le_zero.1 (hr 0 15 rfl (by kernel_rfl));subst hr0;obtain⟨⟨x,H⟩,_⟩:=hS;exact zAG BelR.refl rfl (zA7 rfl zAJ (h.d 3 6) ((H.cell .zero 1).trans rfl))
     ·intro A W h r hS hr;have hr0:r=0:=Nat.le_zero.1 (hr 0 15 rfl (by kernel_rfl));subst hr0;obtain⟨⟨x,H⟩,_⟩:=hS;exact zAG BelR.refl rfl (zA7 rfl zCQ (h.f 1) ((H.cell i_1 0).trans rfl))
     ·intro A W h r hS hr;have e8:A.eval (.tmp 8)=ptrV rb:=h.d 5 8;refine zAG BelR.refl rfl ?_;simp only[execOp,e8];(simp[go_sem])
     ·intro A W h r hS hr;have e9:A.eval (.tmp 9)=ptrV rb:=h.d 6 9;refine zAG BelR.refl rfl ?_;simp only[execOp,e9];(simp[go_sem])
     ·intro A W h r hS hr;have e10:A.eval (.tmp 10)=ptrV rb:=h.d 7 10;refine zAG BelR.refl rfl ?_;simp only[execOp,e10];(simp[go_sem])
     ·intro A W h r hS hr;have hr0:r=0:=Nat.le_zero.1 (hr 0 15 rfl (by kernel_rfl));subst hr0;obtain⟨⟨x,H⟩,_⟩:=hS;exact zAG BelR.refl rfl (zA7 rfl zAh (h.d 8 11) ((H.cell .zero 0).trans rfl))
     ·intro A W h r hS hr;exact zAG BelR.refl rfl (zDW Tryd.underlying9 rfl (h.d 9 12))
     ·intro A W h r hS hr;have e7:A.eval (.tmp 7)=.int .i64 (i:Int):=h.d 4 7;have e13:A.eval (.tmp 13)=.int .i64 (L.length:Int):=h.d 10 13;refine zAG BelR.refl rfl ?_;simp only[execOp,e7,e13];(simp[go_sem];omega)
     ·intro A W h r hS hr;exact zDk BelR.refl rfl rfl (h.d 11 14)
     ·intro A W h r hS hr;exact zDk BelR.refl (wg (h.d 12 15)) rfl (h.f 0)
     ·intro A W h r hS hr;have hr0:r=0:=Nat.le_zero.1 (hr 0 15 rfl (by kernel_rfl));subst hr0;obtain⟨⟨x,H⟩,_⟩:=hS;exact zAG BelR.refl (wg (h.d 12 15)) (zA7 rfl zCQ (h.f 1) ((H.cell i_1 0).trans rfl))
     ·intro A W h hst;obtain⟨⟨x2,H⟩,hBW⟩:=hst;exact(zJh (wg (h.d 12 15)) rfl (enters_of Tryd.func44 (by kernel_rfl) rfl) (zCC (h.d 14 17)) (hwd W (HZ.out.below H.below) (H.blk .zero).2) (fun w' hk=>⟨h.defers,HB.out _ _ (zDv hb hk) hBW,.inr ⟨_,rfl,ws,i,x,x2,rfl,HE.out,HX.out,H.tailBut hk⟩⟩)).toI
     ·intro A W h hst;exact(show False from h.d 15 18).elim
     ·intro A W h r hS hr;exact(show False from h.d 16 19).elim
    case en =>
     intro vals W1 _ hv hst;exact(show False from hv 15 (by omega)).elim
   | ok p =>
    obtain⟨d,j⟩:=p;have hwd:=fun w hz hr=>(by have:=zLe rb L i U (by omega) hlt hrb w hz hr;rw[hw]at this;exact this:Calls Tryd.prog 44 #[ptrV rb] w (zAz rb L U w (.ok (zAk d,j))))
    have hj:=zJB hlt hw;have HW:=Lib.hid hw
    have HI:=Lib.hid (show WInv L (ws++[d]) j by
     obtain⟨⟨h1,h2,f,e,hf⟩,_⟩:=G.out;obtain⟨f',rfl⟩:∃ f',f=f'+1:=⟨f - 1,by omega⟩
     exact⟨hj.2,by simp;omega,f',by rw[e,zMD hlt hw],by omega⟩)
    clear hw
    gi_wp2_with fail
    refine zCj BelR (fun _ _=>True) [15,16] (fun r W=>Hd w0 L U b2 b3 b4 b5 rb pb (wsS ws d r) (pS i j r) (iS i j r) W∧B W) (fun _ _ _=>trivial) (fun r u v ⟨⟨x,H⟩,hBW⟩ hbel=>⟨⟨x,H.call hbel⟩,HB.out _ _ (zBq hbel) hBW⟩) BelR.drew BelR.refl (fun _ _ _ _ _=>trivial) 8 18 rfl [fun v _=>v=ptrV rb,fun v _=>v=ptrV rb,fun v _=>v=ptrV rb,fun v _=>v=pt rb 1,fun v _=>v=.int .i64 (i:Int),fun v _=>v=ptrV rb,fun v _=>v=ptrV rb,fun v _=>v=ptrV rb,fun v _=>v=ptrV rb,fun v _=>v=.string ⟨L.toArray⟩,fun v _=>v=.int .i64 (L.length:Int),fun v _=>v=.bool true,fun v _=>v=.bool true,fun v _=>v=.func (.yield l) #[] #[],fun v _=>v=ptrV rb,fun v _=>v=zAk d,fun v _=>v=.bool true,fun v _=>v=.bool true] ⟨zAA _,zAA _,zAA _,zAA _,zAA _,zAA _,zAA _,zAA _,zAA _,zAA _,zAA _,zAA _,zAA _,zAA _,zAA _,zAA _,zAA _,zAA _,trivial⟩ (by kernel_rfl) ⟨G.out.2.1,G.out.2.2⟩ (by kernel_rfl) (by kernel_rfl) (by kernel_rfl) ?ob ?en
    case ob =>
     refine⟨?_,?_,?_,?_,?_,?_,?_,?_,?_,?_,?_,?_,?_,?_,?_,?_,?_,?_,trivial⟩
     ·intro A W h r hS hr;have hr0:r=0:=Nat.le_zero.1 (hr 0 15 rfl (by kernel_rfl));subst hr0;obtain⟨⟨x,H⟩,_⟩:=hS;exact zAG BelR.refl rfl (zA7 rfl zCQ (h.f 1) ((H.cell i_1 0).trans rfl))
     ·intro A W h r hS hr;have e3:A.eval (.tmp 3)=ptrV rb:=h.d 0 3;refine zAG BelR.refl rfl ?_;simp only[execOp,e3];(simp[go_sem])
     ·intro A W h r hS hr;have e4:A.eval (.tmp 4)=ptrV rb:=h.d 1 4;refine zAG BelR.refl rfl ?_;simp only[execOp,e4];(simp[go_sem])
     ·intro A W h r hS hr;have e5:A.eval (.tmp 5)=ptrV rb:=h.d 2 5;refine zAG BelR.refl rfl ?_;simp only[execOp,e5];(simp[go_sem])
     ·intro A W h r hS hr;have hr0:r=0:=Nat.le_zero.1 (hr 0 15 rfl (by kernel_rfl));subst hr0;obtain⟨⟨x,H⟩,_⟩:=hS;exact zAG BelR.refl rfl (zA7 rfl zAJ (h.d 3 6) ((H.cell .zero 1).trans rfl))
     ·intro A W h r hS hr;have hr0:r=0:=Nat.le_zero.1 (hr 0 15 rfl (by kernel_rfl));subst hr0;obtain⟨⟨x,H⟩,_⟩:=hS;exact zAG BelR.refl rfl (zA7 rfl zCQ (h.f 1) ((H.cell i_1 0).trans rfl))
     ·intro A W h r hS hr;have e8:A.eval (.tmp 8)=ptrV rb:=h.d 5 8;refine zAG BelR.refl rfl ?_;simp only[execOp,e8];(simp[go_sem])
     ·intro A W h r hS hr;have e9:A.eval (.tmp 9)=ptrV rb:=h.d 6 9;refine zAG BelR.refl rfl ?_;simp only[execOp,e9];(simp[go_sem])
     ·intro A W h r hS hr;have e10:A.eval (.tmp 10)=ptrV rb:=h.d 7 10;refine zAG BelR.refl rfl ?_;simp only[execOp,e10];(simp[go_sem])
     ·intro A W h r hS hr;have hr0:r=0:=Nat.le_zero.1 (hr 0 15 rfl (by kernel_rfl));subst hr0;obtain⟨⟨x,H⟩,_⟩:=hS;exact zAG BelR.refl rfl (zA7 rfl zAh (h.d 8 11) ((H.cell .zero 0).trans rfl))
     ·intro A W h r hS hr;exact zAG BelR.refl rfl (zDW Tryd.underlying9 rfl (h.d 9 12))
     ·intro A W h r hS hr;have e7:A.eval (.tmp 7)=.int .i64 (i:Int):=h.d 4 7;have e13:A.eval (.tmp 13)=.int .i64 (L.length:Int):=h.d 10 13;refine zAG BelR.refl rfl ?_;simp only[execOp,e7,e13];(simp[go_sem];omega)
     ·intro A W h r hS hr;exact zDk BelR.refl rfl rfl (h.d 11 14)
     ·intro A W h r hS hr;exact zDk BelR.refl (wg (h.d 12 15)) rfl (h.f 0)
     ·intro A W h r hS hr;have hr0:r=0:=Nat.le_zero.1 (hr 0 15 rfl (by kernel_rfl));subst hr0;obtain⟨⟨x,H⟩,_⟩:=hS;exact zAG BelR.refl (wg (h.d 12 15)) (zA7 rfl zCQ (h.f 1) ((H.cell i_1 0).trans rfl))
     ·intro A W h hst;obtain⟨⟨x,H⟩,hBW⟩:=hst;exact(zKt (wg (h.d 12 15)) rfl (enters_of Tryd.func44 (by kernel_rfl) rfl) (zCC (h.d 14 17)) (hwd W (HZ.out.below H.below) (H.blk .zero).2) (fun w' hk hr=>⟨⟨x,H.callBut .zero hk hr⟩,HB.out _ _ (zDv hb hk) hBW⟩)).toI
     ·intro A W h hst;obtain⟨hH,hBW⟩:=hst;exact zMs (wg (h.d 12 15)) rfl (h.d 13 16) (h.d 15 18) (HY.out ws i j d W hlt G.out.1 HW.out hH hBW)
     ·intro A W h r hS hr;exact zKp BelR.refl rfl rfl (h.d 12 15) (h.d 16 19)
    case en =>
     intro vals W1 _ hv hst;have v0:vals 0=ptrV rb:=hv 0 (by omega)
     have v1:vals 1=ptrV rb:=hv 1 (by omega)
     have v2:vals 2=ptrV rb:=hv 2 (by omega)
     have v3:vals 3=.pointer (some ⟨rb,1,none⟩):=hv 3 (by omega)
     have v4:vals 4=.int .i64 (i:Int):=hv 4 (by omega)
     have v5:vals 5=ptrV rb:=hv 5 (by omega)
     have v6:vals 6=ptrV rb:=hv 6 (by omega)
     have v7:vals 7=ptrV rb:=hv 7 (by omega)
     have v8:vals 8=ptrV rb:=hv 8 (by omega)
     have v9:vals 9=.string ⟨L.toArray⟩:=hv 9 (by omega)
     have v10:vals 10=.int .i64 (L.length:Int):=hv 10 (by omega)
     have v11:vals 11=.bool true:=hv 11 (by omega)
     have v12:vals 12=.bool true:=hv 12 (by omega)
     have v13:vals 13=.func (.yield l) #[] #[]:=hv 13 (by omega)
     have v14:vals 14=ptrV rb:=hv 14 (by omega)
     have v15:vals 15=zAk d:=hv 15 (by omega)
     have v16:vals 16=.bool true:=hv 16 (by omega)
     have v17:vals 17=.bool true:=hv 17 (by omega)
     simp only[List.append,List.take_succ_cons,List.take_zero,List.take_nil,zBI,Nat.zero_add,Nat.reduceAdd];rw[v0,v1,v2,v3,v4,v5,v6,v7,v8,v9,v10,v11,v12,v13,v14,v15,v16,v17];clear hv v0 v1 v2 v3 v4 v5 v6 v7 v8 v9 v10 v11 v12 v13 v14 v15 v16 v17
     try simp only[pl]
     gi_wp2
     go_roundw
     case rel=>exact⟨ws++[d],j,Lib.hid ⟨HI.out,hst.1,hst.2⟩⟩
     case measure =>
      obtain⟨⟨v,H⟩,_⟩:=hst;rw[zBD (show W1.heap[rb]?=some (.cells (rdC L j) U (0,0)) from (H.blk .zero).2),hpos];omega
  ·gi_wp2_with fail
   refine zCj BelR (fun _ _=>True) [] (fun _ W=>Hd w0 L U b2 b3 b4 b5 rb pb ws i i W∧B W) (fun _ _ _=>trivial) (fun r u v ⟨⟨x,H⟩,hBW⟩ hbel=>⟨⟨x,H.call hbel⟩,HB.out _ _ (zBq hbel) hBW⟩) BelR.drew BelR.refl (fun _ _ _ _ _=>trivial) 8 18 rfl [fun v _=>v=ptrV rb,fun v _=>v=ptrV rb,fun v _=>v=ptrV rb,fun v _=>v=pt rb 1,fun v _=>v=.int .i64 (i:Int),fun v _=>v=ptrV rb,fun v _=>v=ptrV rb,fun v _=>v=ptrV rb,fun v _=>v=ptrV rb,fun v _=>v=.string ⟨L.toArray⟩,fun v _=>v=.int .i64 (L.length:Int),fun v _=>v=.bool false,fun v _=>v=.bool false,fun v _=>v=undef,fun v _=>v=undef,fun v _=>v=undef,fun v _=>v=undef,fun v _=>v=.bool false] ⟨zAA _,zAA _,zAA _,zAA _,zAA _,zAA _,zAA _,zAA _,zAA _,zAA _,zAA _,zAA _,zAA _,zAA _,zAA _,zAA _,zAA _,zAA _,trivial⟩ (by kernel_rfl) ⟨G.out.2.1,G.out.2.2⟩ (by kernel_rfl) (by kernel_rfl) (by kernel_rfl) ?ob ?en
   case ob =>
    refine⟨?_,?_,?_,?_,?_,?_,?_,?_,?_,?_,?_,?_,?_,?_,?_,?_,?_,?_,trivial⟩
    ·intro A W h r hS hr;obtain⟨⟨x,H⟩,_⟩:=hS;exact zAG BelR.refl rfl (zA7 rfl zCQ (h.f 1) ((H.cell i_1 0).trans rfl))
    ·intro A W h r hS hr;have e3:A.eval (.tmp 3)=ptrV rb:=h.d 0 3;refine zAG BelR.refl rfl ?_;simp only[execOp,e3];(simp[go_sem])
    ·intro A W h r hS hr;have e4:A.eval (.tmp 4)=ptrV rb:=h.d 1 4;refine zAG BelR.refl rfl ?_;simp only[execOp,e4];(simp[go_sem])
    ·intro A W h r hS hr;have e5:A.eval (.tmp 5)=ptrV rb:=h.d 2 5;refine zAG BelR.refl rfl ?_;simp only[execOp,e5];(simp[go_sem])
    ·intro A W h r hS hr;obtain⟨⟨x,H⟩,_⟩:=hS;exact zAG BelR.refl rfl (zA7 rfl zAJ (h.d 3 6) ((H.cell .zero 1).trans rfl))
    ·intro A W h r hS hr;obtain⟨⟨x,H⟩,_⟩:=hS;exact zAG BelR.refl rfl (zA7 rfl zCQ (h.f 1) ((H.cell i_1 0).trans rfl))
    ·intro A W h r hS hr;have e8:A.eval (.tmp 8)=ptrV rb:=h.d 5 8;refine zAG BelR.refl rfl ?_;simp only[execOp,e8];(simp[go_sem])
    ·intro A W h r hS hr;have e9:A.eval (.tmp 9)=ptrV rb:=h.d 6 9;refine zAG BelR.refl rfl ?_;simp only[execOp,e9];(simp[go_sem])
    ·intro A W h r hS hr;have e10:A.eval (.tmp 10)=ptrV rb:=h.d 7 10;refine zAG BelR.refl rfl ?_;simp only[execOp,e10];(simp[go_sem])
    ·intro A W h r hS hr;obtain⟨⟨x,H⟩,_⟩:=hS;exact zAG BelR.refl rfl (zA7 rfl zAh (h.d 8 11) ((H.cell .zero 0).trans rfl))
    ·intro A W h r hS hr;exact zAG BelR.refl rfl (zDW Tryd.underlying9 rfl (h.d 9 12))
    ·intro A W h r hS hr;have e7:A.eval (.tmp 7)=.int .i64 (i:Int):=h.d 4 7;have e13:A.eval (.tmp 13)=.int .i64 (L.length:Int):=h.d 10 13;refine zAG BelR.refl rfl ?_;simp only[execOp,e7,e13];(simp[go_sem];omega)
    ·intro A W h r hS hr;exact zDk BelR.refl rfl rfl (h.d 11 14)
    ·intro A W h r hS hr;exact zHX (zCs rfl (zAS (d:=15) rfl (h.d 12 15)) (by decide)) rfl
    ·intro A W h r hS hr;exact zHX (zCs rfl (zAS (d:=15) rfl (h.d 12 15)) (by decide)) rfl
    ·intro A W h r hS hr;exact zHX (zCs rfl (zAS (d:=15) rfl (h.d 12 15)) (by decide)) rfl
    ·intro A W h r hS hr;exact zHX (zCs rfl (zAS (d:=15) rfl (h.d 12 15)) (by decide)) rfl
    ·intro A W h r hS hr;exact zKp BelR.refl rfl rfl (h.d 12 15) rfl
   case en =>
    intro vals W1 _ hv hst;have v0:vals 0=ptrV rb:=hv 0 (by omega)
    have v1:vals 1=ptrV rb:=hv 1 (by omega)
    have v2:vals 2=ptrV rb:=hv 2 (by omega)
    have v3:vals 3=.pointer (some ⟨rb,1,none⟩):=hv 3 (by omega)
    have v4:vals 4=.int .i64 (i:Int):=hv 4 (by omega)
    have v5:vals 5=ptrV rb:=hv 5 (by omega)
    have v6:vals 6=ptrV rb:=hv 6 (by omega)
    have v7:vals 7=ptrV rb:=hv 7 (by omega)
    have v8:vals 8=ptrV rb:=hv 8 (by omega)
    have v9:vals 9=.string ⟨L.toArray⟩:=hv 9 (by omega)
    have v10:vals 10=.int .i64 (L.length:Int):=hv 10 (by omega)
    have v11:vals 11=.bool false:=hv 11 (by omega)
    have v12:vals 12=.bool false:=hv 12 (by omega)
    have v13:vals 13=undef:=hv 13 (by omega)
    have v14:vals 14=undef:=hv 14 (by omega)
    have v15:vals 15=undef:=hv 15 (by omega)
    have v16:vals 16=undef:=hv 16 (by omega)
    have v17:vals 17=.bool false:=hv 17 (by omega)
    simp only[List.append,List.take_succ_cons,List.take_zero,List.take_nil,zBI,Nat.zero_add,Nat.reduceAdd];rw[v0,v1,v2,v3,v4,v5,v6,v7,v8,v9,v10,v11,v12,v13,v14,v15,v16,v17];clear hv v0 v1 v2 v3 v4 v5 v6 v7 v8 v9 v10 v11 v12 v13 v14 v15 v16 v17
    try simp only[pl]
    gi_wp2
    go_end0
    obtain⟨hH,hBW⟩:=hst;obtain⟨⟨h1,h2,f,e,hf⟩,_⟩:=G.out;exact⟨hBW,.inl ⟨_,rfl,ws,i,by rw[e,zLF hlt],hH⟩⟩
theorem mkf (fn:Fn) (first cap:Array Value) (w:World):(Instr.makeFunc fn first cap).run Tryd.prog w=.ok (.func fn first cap) w:=rfl
theorem zMT (rb:Nat) (w0:World):Calls Tryd.prog 30 #[ptrV rb] w0 fun e w'=>(∃ pb,e=.returned (.func (.func 43) #[] #[.pointer (some ⟨pb,0,none⟩)])∧w0.heap.size≤pb∧w'.heap[pb]?=some (.cells #[ptrV rb] 80 (0,0)))∧Below w0.heap.size w0 w':=by
 have H:=Hold.start w0;have hmf:=mkf
 go_enter Tryd.func30,Tryd.ntmps30
 go_wp2_with (first|((first|((with_reducible refine kgA 1 ?_);refine kA 1 H ?_)|((with_reducible refine kgX 1 ?_);(first|refine kS 1 H ?_|refine kB 1 H ?_)));clear H;intro b1 w H;try simp only[nr]at H)|fail)
 go_ret;exact⟨⟨b1,rfl,by have:=(H.blk .zero).1;simpa using this,(H.blk .zero).2⟩,H.below⟩
theorem zJo (n b4 b2:Nat) (w:World):CallsDIn Fence.wide n Tryd.prog 29 #[.pointer (some ⟨b4,0,none⟩),.pointer (some ⟨b2,0,none⟩)] .returning w fun e u' w'=>e=.returned (.tuple #[])∧u'=.returning∧w'=w:=by
 refine callsDIn_of_wpSIn Tryd.func29 rfl trivial fun c₀ cs hu=>?_
 apply wpSIn_seq;apply wpSIn_region;simp[wpOpsSIn,go_sem,recoverD,hu,Tryd.ntmps29,Exit.thenS];apply wpSIn_seq;apply wpSIn_region;simp[wpOpsSIn,go_sem,Exit.thenS];refine wpSIn_cond (t:=false) (by simp[Act.eval,Array.replicate]) ?_
 simp only[Bool.false_eq_true,if_false];refine wpSIn_of_wpIn rfl (wpIn_skip ?_)
 cases c₀
 simp_all [bodyPostS,results,Tryd.results29]
theorem zH1 (x:Int) (w:World):(Instr.typeAssert (.iface 32 (.int .i64 x)) 20 32 true).run Tryd.prog w=.ok (.tuple #[.int .i64 x,.bool true]) w:=by kernel_rfl
theorem zIK (n b4 b2:Nat) (x:Nat) (v4 v2:Value) (w:World) (hne:b4≠b2) (h4:w.heap[b4]?=some (.cells #[v4] 32 (0,0))) (h2:w.heap[b2]?=some (.cells #[v2] 47 (0,0))) :
  CallsDIn Fence.wide n Tryd.prog 29 #[.pointer (some ⟨b4,0,none⟩),.pointer (some ⟨b2,0,none⟩)] (.panicking (zEC x)) w fun e u' w'=>e=.returned (.tuple #[]) ∧
   u'=.panicking [{v:=.iface 32 (.int .i64 x),recovered:=true}]∧w'=(w.setCell ⟨b4,0,none⟩ (.int .i64 x)).setCell ⟨b2,0,none⟩ (.slice none 0 0):=by
 have c4:w.cell? ⟨b4,0,none⟩=some v4:=cell_of_row w b4 0 _ _ _ h4;have f4:w.frozen? ⟨b4,0,none⟩=false:=by simp[World.frozen?,h4]
 have c2:(w.setCell ⟨b4,0,none⟩ (.int .i64 x)).cell? ⟨b2,0,none⟩=some v2:=by
  rw[cell_of_row _ b2 0 _ _ _ ((Below.heap_setCell w _ _ b2 (fun e=>hne e.symm)).trans h2)];rfl
 have f2:(w.setCell ⟨b4,0,none⟩ (.int .i64 x)).frozen? ⟨b2,0,none⟩=false:=by
  simp[World.frozen?,(Below.heap_setCell w ⟨b4,0,none⟩ (.int .i64 x) b2 (fun e=>hne e.symm)).trans h2]
 have hta:=zH1 x;refine callsDIn_of_wpSIn Tryd.func29 rfl trivial fun c₀ cs hu=>?_
 unfold zEC at hu;apply wpSIn_seq;apply wpSIn_region;simp[wpOpsSIn,go_sem,recoverD,hu,Tryd.ntmps29,Exit.thenS];apply wpSIn_seq;apply wpSIn_region;simp[wpOpsSIn,go_sem,Exit.thenS];refine wpSIn_cond (t:=true) (by simp[Act.eval,Array.replicate]) ?_
 simp only[if_true];refine wpSIn_of_wpIn rfl ?_
 rw[wpIn_wide];simp only[Array.replicate_succ,Array.replicate_zero,List.push_toArray,List.append_toArray,List.nil_append,List.cons_append,List.setIfInBounds_toArray,List.set_cons_succ,List.set_cons_zero]
 go_wp2
 simp[bodyPostS,results,Tryd.results29]
theorem zHY {P:Program} {fn:Func} {p q r:Tmp} {T2 T3 T4:TypeId} (hres:fn.results=#[.cell p T2,.cell q T3,.cell r T4]) {tmps:Array Value} {w:World} {b2 b3 b4:Nat}
  (h2:tmps.getD p undef=.pointer (some ⟨b2,0,none⟩)) (h3:tmps.getD q undef=.pointer (some ⟨b3,0,none⟩)) (h4:tmps.getD r undef=.pointer (some ⟨b4,0,none⟩)) (t2:oneB P T2=true) (t3:oneB P T3=true) (t4:oneB P T4=true)
  {v2 v3 v4:Value} (c2:w.cell? ⟨b2,0,none⟩=some v2) (c3:w.cell? ⟨b3,0,none⟩=some v3) (c4:w.cell? ⟨b4,0,none⟩=some v4):(results fn tmps).run P w=.ok (.tuple #[v2,v3,v4]) w:=by
 have e2:tmps[p]?.getD undef=.pointer (some ⟨b2,0,none⟩):=by simpa using h2
 have e3:tmps[q]?.getD undef=.pointer (some ⟨b3,0,none⟩):=by simpa using h3
 have e4:tmps[r]?.getD undef=.pointer (some ⟨b4,0,none⟩):=by simpa using h4
 simp[results,hres,e2,e3,e4,asAddr,zA4 t2 c2,zA4 t3 c3,zA4 t4 c4]
theorem HoldG.perm {M:Nat→Prop} {w0 w:World} {l l':List Res} (H:HoldG M w0 w l) (f:Nat→Nat) (h:∀ i,i<l'.length→l'[i]?=l[f i]?) (hf:∀ i j,i<l'.length→j<l'.length→i≠j→f i≠f j):HoldG M w0 w l':=by
 refine⟨H.keep,fun i r hi=>H.all (f i) r ((h i (List.getElem?_eq_some_iff.1 hi).1) ▸ hi),fun i j r s hij h1 h2=>?_⟩
 have l1:=(List.getElem?_eq_some_iff.1 h1).1;have l2:=(List.getElem?_eq_some_iff.1 h2).1;exact H.apart (f i) (f j) r s (hf i j l1 l2 hij) ((h i l1) ▸ h1) ((h j l2) ▸ h2)
def zKr:Res→Bool|.mp _ _ _=>false|.kn _ _=>false|_=>true
theorem HoldG.stay {M:Nat→Prop} {w0:World} {l:List Res} (hl:l.all zKr=true) {B:Nat} (hB:w0.heap.size≤B):Stay B (fun W=>HoldG M w0 W l):=by
 intro W W' row H hg hr;refine⟨H.keep.trans ⟨hg.os,hg.tape,hg.output,hg.size,fun k h1 h2=>hg.block k (Nat.lt_of_lt_of_le h1 H.keep.size) (fun e=>by have:=(hr k e.symm).1;omega)⟩,fun i s hs=>?_,H.apart⟩
 have hA:=H.all i s hs;have hc:zKr s=true:=List.all_eq_true.1 hl s (List.mem_of_getElem? hs);refine hA.kept (fun b hb=>hg.block b (hA.ltf b hb) (fun e=>?_)) hg.size
 obtain⟨_,o,ho,hcell⟩:=hr b e.symm
 cases s with
 | blk b' cs T =>
  cases hb
  rw[hA.2]at ho;cases ho;cases hcell
 | row v e sz n xs =>
  obtain⟨_,⟨hv,_⟩|⟨g,cap,cur,rfl,_,hg',_⟩⟩:=hA
  ·have h2:v.ownBlock=some b:=hb;rw[hv]at h2;cases h2
  ·have:g=b:=by simpa [Res.foot,Value.ownBlock] using hb
   subst this;rw[hg']at ho;cases ho;cases hcell
 | mp b' es c=>cases hc
 | kn F S=>cases hc
theorem Stay.ex {α:Type} {B:Nat} {I:α→World→Prop} (h:∀ x,Stay B (I x)):Stay B (fun W=>∃ x,I x W):=fun W W' row ⟨x,hx⟩ hg hr=>⟨x,h x W W' row hx hg hr⟩
theorem Stay.and {B:Nat} {p:Prop} {I:World→Prop} (h:Stay B I):Stay B (fun W=>p∧I W):=fun W W' row ⟨hp,hx⟩ hg hr=>⟨hp,h W W' row hx hg hr⟩
theorem zJz:(Tryd.prog.info? 65).map (fun i=>(i.zero,i.size,i.bytes))=some (some (.agg (zAg {kind:=0,place:=0})),17,88):=by kernel_rfl
theorem zJ5 (d:WordD) (W:World):(Instr.buildSlice 47 1 #[(0,zAk d)]).run Tryd.prog W=.ok (.slice (some ⟨W.heap.size,0,none⟩) 1 1) (W.alloc (.cells (zAg d) 65)):=by kernel_rfl
section
variable {M:Nat→Prop} {P:Program} {ops:Array Oper} {o:Oper} {rest:List Oper} {a:Act} {w w0:World} {l:List Res} {Q:Exit→Act→World→Prop} {B:Nat} {W0:World}
theorem zJy (hg:Region.wanted o (yielded ops a.tmps)=true) (TS:TypeId) (n:Nat) (parts:Array (Nat × Operand)) (ho:o.op=.buildSlice TS n parts) (H:HoldG M w0 w l) (N:KeepsFrom B W0 w) (cs:Array Value) (T:TypeId)
  (hr:∀ W:World,(Instr.buildSlice TS n (parts.map fun (i,x)=>(i,a.eval x))).run P W=.ok (.slice (some ⟨W.heap.size,0,none⟩) n n) (W.alloc (.cells cs T)))
  (h:∀ b w',HoldG M w0 w' (l++[.blk b cs T])→KeepsFrom B W0 w'→wpList P ops Q rest (a.put o.dst (.slice (some ⟨b,0,none⟩) n n)) w'):wpList P ops Q (o::rest) a w :=
 zAd hg fun _ hK=>by
  unfold Oper.wp execOp;simp only[ho,Sem.run_bind,hr,Result.andThen_ok];exact hK _ _ (h _ _ (H.alloc cs T) (N.trans (KeepsFrom.of_grownBy (World.grownBy_alloc w _ none) (fun j e=>by cases e))))
theorem zD2 {W W':World} {b:Nat} {cs:Array Value} {T:TypeId} {f:Nat × Nat} (hb:W.heap[b]?=some (.cells cs T f)) (hg:W.grownBy W' (some b)):KeepsFrom B W W' :=
 ⟨hg.size,fun k o _ hk ho=>(hg.block k (Array.getElem?_eq_some_iff.1 hk).1 (fun e=>by cases e;rw[hb]at hk;cases hk;cases ho)).trans hk⟩
theorem zDj (hg:Region.wanted o (yielded ops a.tmps)=true) (T:TypeId) (x y:Operand) (ho:o.op=.store T x y) {b k:Nat} (hx:a.eval x=.pointer (some ⟨b,k,none⟩)) {v:Value} (hy:a.eval y=v) (H:HoldG M w0 w l) (N:KeepsFrom B W0 w) {i:Nat} {cs:Array Value} {U:TypeId} (hi:At l i (.blk b cs U))
  (h1:v.oneCell'=true) (hk:k<cs.size) (hT:zCx P T 1=true) (h:∀ w',HoldG M w0 w' (l.set i (.blk b (cs.setIfInBounds k v) U))→KeepsFrom B W0 w'→wpList P ops Q rest (a.put o.dst undef) w'):wpList P ops Q (o::rest) a w :=
 zAd hg fun _ hK=>by
  unfold Oper.wp execOp;have hs:(⟨b,k,none⟩:Addr).add 0=⟨b,k,none⟩:=by rw[Addr.add_mid];rfl
  simp only[ho,hx,hy,Instr.storeAt,Instr.sureAddr,Sem.run_bind,Sem.run_pure,Result.andThen_ok,zCE (P:=P) (w:=w) hT h1 (by rw[H.cell hi];simp[hk]) (H.frozen hi k) hs]
  exact hK _ _ (h _ (H.setCell hi v) (N.trans (zD2 (H.blk hi).2 (zCM w b k v))))
theorem zIe (hg:o.guard=none) (s x:Operand) (T:TypeId) (ho:o.op=.call {callee:=.builtin .append,args:=#[s,x],argTypes:=#[T,T]}) (H:HoldG M w0 w l) (N:KeepsFrom B W0 w) {i j b:Nat} {v:Value} {e:TypeId} {sz n m c:Nat} {xs:List Value} {cs:Array Value} {U:TypeId}
  (hs:a.eval s=v) (hx:a.eval x=.slice (some ⟨b,0,none⟩) m c) (hi:At l i (.row v e sz n xs)) (hj:At l j (.blk b cs U)) {it:TypeInfo} {z:Value} {bytes:Nat}
  (h1:P.underlying T=some (.slice e)) (h2:P.info? e=some it) (h3:it.zero=some z) (h4:it.size=sz) (h5:it.bytes=bytes) (h6:z.cells.size=sz) (h7:0<sz) (hcs:cs.size=m * sz) (h1c:cs.toList.all (·.oneCell')=true)
  (b1:n+m≤maxLen) (b2:(n+m) * bytes≤140737488355328)
  (h:∀ v' w',v'.oneCell'=true→HoldG M w0 w' (l.set i (.row v' e sz (n+m) (xs++cs.toList)))→KeepsFrom B W0 w'→wpList P ops Q rest (a.put o.dst v') w'):wpList P ops Q (o::rest) a w:=by
 refine wpList_append_own_at w hg s x T ho w0.heap.size e it z sz bytes h1 h2 h3 h4 h5 h6 h7 v n xs hs (H.all i _ hi.get) ⟨b,0,none⟩ m c cs.toList hx (by simpa using hcs) (fun q u hq=>?_) (fun u hu=>List.all_eq_true.1 h1c u hu) b1 b2 H.keep.size (fun v' w' r1 r2 _ r4=>h v' w' ?_ ?_ ?_)
 ·rw[Addr.add_mid,H.cell hj]
  simpa using hq
 ·obtain⟨_,⟨hv,_⟩|⟨g,cap,cur,hv,_⟩⟩:=r1<;>rw[hv]<;>rfl
 ·refine H.upd hi.get (by exact r2) r1 (fun b' hb'=>?_)
  rcases r4 with r4|r4
  ·left;show v.ownBlock=some b';rw[← r4];exact hb'
  ·right;have:v'.ownBlock=some b':=hb';rw[r4]at this
   cases this;exact Nat.le_refl _
 ·refine N.trans ?_
  obtain⟨_,⟨hv,_⟩|⟨g,cap,cur,hv,_,hg',_⟩⟩:=H.all i _ hi.get
  ·rw[hv]at r2;exact KeepsFrom.of_grownBy r2 (fun j e=>by cases e)
  ·rw[hv]at r2;exact zD2 hg' r2
end
end
end Go.Proofs.YtklcgfkdemifcaaDoor
