/-
  Laws of walks, and walks.
-/
import Derived.Test.YtalggmbdpmdcbaaGreatPt9
import Derived.Below
import Derived.Test.YtalggmbdpmdcbaaGreatPt1
import Derived.Deep.CutRange
import Derived.Test.YtalggmbdpmdcbaaGreatPt7
import Derived.Test.YtalggmbdpmdcbaaGreatPt5
set_option linter.unusedVariables false
set_option linter.unusedSimpArgs false
set_option maxRecDepth 100000
set_option maxHeartbeats 16000000
namespace Go.Proofs.YtalggmbdpmdcbaaGreat
section
open Go.RowKit Go.Shelf
attribute [local go_sem] Oper.semAt_some
section
variable {M:Nat->Prop} {ops:Array Oper} {dst:Option Tmp} {ty:TypeId} {pos:String} {aft:Array Edge} {grd:Option (Nat × Bool)} {rest:List Oper} {a:Act} {w w0:World} {l:List Res} {Q:Exit->Act->World->Prop}
theorem gNI {U:TypeId} {x y:Operand} (h:wpList Tryz.prog ops Q ((⟨dst,.binOp .neq 47 x y U,ty,pos,aft,grd⟩:Oper)::rest) a w):wpList Tryz.prog ops Q ((⟨dst,.binOp .neq 47 x y U,ty,pos,aft,grd⟩:Oper)::rest) a w:=h
theorem nI {U:TypeId} {x y:Operand} {d e:InstD} (h:wpList Tryz.prog ops Q rest (a.put dst (.bool (!(eqI d e)))) w) (hg:Region.wanted (⟨dst,.binOp .neq 47 x y U,ty,pos,aft,grd⟩:Oper) (yielded ops a.tmps)=true:=by first|rfl|exact zAZ rfl (zAN rfl (by first|rfl|(simp only[pe];rfl)))) (hx:a.eval x=zAm d:=by first|(simp only[pe];done)|(simp only[pe];rfl)) (hy:a.eval y=zAm e:=by first|(simp only[pe];done)|(simp only[pe];rfl)):wpList Tryz.prog ops Q ((⟨dst,.binOp .neq 47 x y U,ty,pos,aft,grd⟩:Oper)::rest) a w :=
 zAP hg (zNP rfl hx hy) h
end
theorem zOK (x:InstD) (q:Option Addr) (n c b:Nat) (w0:World) (hn:0<n) (hn2:n<=1000000) (hlt:b<w0.heap.size) (hb:w0.cell? ⟨b,0,none⟩=some (.slice q n c)):Calls Tryz.prog 52 #[zAm x,.pointer (some ⟨b,0,none⟩)] w0 (Rt (.bool (!(zEL n x))) w0):=by
 have H:=(Hold.start w0).know (·=b) (fun V=>V.cell? ⟨b,0,none⟩=some (.slice q n c)) (fun _ h=>by omega) (fun i r h=>by simp at h) (fun V hV=>by rw[← hb];simp[World.cell?,hV b rfl])
 simp only[List.nil_append]at H;have hba:=fun w=>zQd x n w hn hn2
 have E:=Lib.hid (zL3 n hn x)
 cases hz:(zDz n x).2 with
 | true =>
  rw[hz]at hba
  go_enter Tryz.func52,Tryz.ntmps52
  go_wp2_with (first|((with_reducible refine gNI ?_);refine nI ?_)|((with_reducible refine gL ?_);refine zAT wtd_ _ _ rfl rfl zBW (H.kn (i:=0) .zero) ?_)|(first|((with_reducible refine gTi ?_);refine aTi H ?_;clear H;intro w H;try simp only[nr]at H)|((with_reducible refine gLi ?_);refine aLi H ?_)|((with_reducible refine gX ?_);(refine bB H ?_;clear H;intro b w H;try simp only[nr]at H))|((with_reducible refine gA ?_);(refine bA H ?_;clear H;intro b w H;try simp only[nr]at H)))|((with_reducible refine ch (hba _) H ?_);clear H;intro w H))
  go_ret;refine⟨?_,H.below⟩;rw[← E.out,hz];rfl
 | false =>
  rw[hz]at hba
  go_enter Tryz.func52,Tryz.ntmps52
  go_wp2_with (first|((with_reducible refine gL ?_);refine zAT wtd_ _ _ rfl rfl zBW (H.kn (i:=0) .zero) ?_)|(first|((with_reducible refine gTi ?_);refine aTi H ?_;clear H;intro w H;try simp only[nr]at H)|((with_reducible refine gLi ?_);refine aLi H ?_)|((with_reducible refine gX ?_);(refine bB H ?_;clear H;intro b w H;try simp only[nr]at H))|((with_reducible refine gA ?_);(refine bA H ?_;clear H;intro b w H;try simp only[nr]at H)))|((with_reducible refine ch (hba _) H ?_);clear H;intro w H))
  go_ret;refine⟨?_,H.below⟩;rw[← E.out,hz];rfl
theorem zNY (p q:Option Addr) (c cq b:Nat) (xs:List InstD) (F:Nat->Prop) (w0:World) (hn:0<xs.length) (hn2:xs.length<=1000000) (hF:∀ b,F b->b<w0.heap.size) (h:InstsR F p c xs w0) (hlt:b<w0.heap.size) (hb:w0.cell? ⟨b,0,none⟩=some (.slice q xs.length cq)) :
  Calls Tryz.prog 113 #[.slice p xs.length c,.func (.func 52) #[] #[.pointer (some ⟨b,0,none⟩)]] w0 fun e w'=>∃ r:Int,e=.returned (.int .i64 r)/\decide (0<=r)=!(xs.all (zEL xs.length))/\Below w0.heap.size w0 w':=by
 have hc:=h.bound;have hp:=h.at;have H:=Hold.insts hF h
 replace H:=H.know (·=b) (fun V=>V.cell? ⟨b,0,none⟩=some (.slice q xs.length cq)) (fun _ h=>by omega) (fun i r h=>by
  rcases i with _|i
  ·simp at h;subst h;intro b hb;cases hb
  ·simp at h) (fun V hV=>by rw[← hb];simp[World.cell?,hV b rfl])
 simp only[ca]at H;clear h hb;obtain⟨n,hnn⟩:∃ n,xs.length=n:=⟨_,rfl⟩;rw[hnn]at hc hp hn hn2 H ⊢;have HN:=Lib.hid hnn;clear hnn;have hr1:=fun w x (hl:b<w.heap.size) (hb:w.cell? ⟨b,0,none⟩=some (.slice q n cq))=>zOK x q n cq b w hn hn2 hl hb
 go_enter Tryz.func113,Tryz.ntmps113
 go_wp2_with (first|fail)
 go_loopw [8] (fun ix wr=>∃ (j:Nat),j<=n/\ix=.int .i64 j/\Hid ((xs.take j).all (zEL n)=true)/\Hold w0 wr [.kn F (InstsR F p c xs),.kn (·=b) (fun V=>V.cell? ⟨b,0,none⟩=some (.slice q n cq))]) (fun ix _=>n+1 - (intOf ix).toNat)
 case atStart=>exact⟨0,by omega,rfl,Lib.hid rfl,H⟩
 case round =>
  clear H;obtain⟨j,hj,rfl,EA,H⟩:=hrel
  by_cases hlt:j<n
  ·have dj:decide ((j:Int)<(n:Int))=true:=by simp;omega
   obtain⟨x,hx⟩:∃ x,xs[j]?=some x:=⟨_,List.getElem?_eq_getElem (by rw[HN.out];exact hlt)⟩
   obtain⟨b1,off,rfl⟩:=hp (by omega)
   have hcell:∀ V,InstsR F (some ⟨b1,off,none⟩) c xs V->∀ k,k<9->V.cell? ⟨b1,off+j * 9+k,none⟩=(zAL x)[k]?:=fun V h=>h.cells hx rfl
   cases hr:zEL n x with
   | true =>
    have E:=Lib.hid (zNG hx EA.out hr);have hr2:=fun w (hl:b<w.heap.size) (hb:w.cell? ⟨b,0,none⟩=some (.slice q n cq))=>hr1 w x hl hb
    rw[hr]at hr2;clear hx hr EA hr1 hp
    go_wp2_with (first|((with_reducible refine gL ?_);refine zAM wtd_ _ _ rfl rfl zAg rfl (hcell _ (H.kn (i:=0) .zero)) ?_)|fail|(go_at_call 52;refine ch (hr2 _ (H.knlt (i:=1) i_1 b rfl) (H.kn (i:=1) i_1)) H ?_;clear H;intro w H))
    go_roundw
    case rel=>exact⟨j+1,by omega,by go_num,E,H⟩
    case measure=>simp[intOf];omega
   | false =>
    have E:=Lib.hid (show xs.all (zEL n)=false by rw[List.all_eq_false];exact⟨x,List.mem_of_getElem? hx,by rw[hr];decide⟩)
    have hr2:=fun w (hl:b<w.heap.size) (hb:w.cell? ⟨b,0,none⟩=some (.slice q n cq))=>hr1 w x hl hb
    rw[hr]at hr2;clear hx hr EA hr1 hp
    go_wp2_with (first|((with_reducible refine gL ?_);refine zAM wtd_ _ _ rfl rfl zAg rfl (hcell _ (H.kn (i:=0) .zero)) ?_)|fail|(go_at_call 52;refine ch (hr2 _ (H.knlt (i:=1) i_1 b rfl) (H.kn (i:=1) i_1)) H ?_;clear H;intro w H))
    go_ret;exact⟨j,rfl,by rw[E.out];simp,H.below⟩
  ·have hjn:j=n:=by omega
   have dj:decide ((j:Int)<(n:Int))=false:=by simp;omega
   have E:=Lib.hid (show xs.all (zEL n)=true by
    have h:=EA.out
    rwa [List.take_of_length_le (by rw[HN.out];omega)]at h)
   clear hp EA hjn hr1
   go_wp2_with (first|fail)
   go_ret;exact⟨-1,rfl,by rw[E.out];simp,H.below⟩
theorem chR {M:Nat->Prop} {P:Program} {f:FuncId} {args:Array Value} {w w0:World} {l:List Res} {D:Int->Prop} {R:Ending->World->Prop} (c:Calls P f args w fun e w'=>∃ r:Int,e=.returned (.int .i64 r)/\D r/\Below w.heap.size w w') (H:HoldG M w0 w l)
  (k:∀ r w',D r->HoldG M w0 w' l->R (.returned (.int .i64 r)) w'):Calls P f args w R:=c.mono fun _ w' ⟨r,e,hd,hb⟩=>by subst e;exact k r w' hd (H.call hb)
theorem zJE (p q:Option Addr) (c cq b:Nat) (xs:List InstD) (F:Nat->Prop) (w0:World) (hn:0<xs.length) (hn2:xs.length<=1000000) (hF:∀ b,F b->b<w0.heap.size) (h:InstsR F p c xs w0) (hlt:b<w0.heap.size) (hb:w0.cell? ⟨b,0,none⟩=some (.slice q xs.length cq)) :
  Calls Tryz.prog 51 #[.slice p xs.length c,.func (.func 52) #[] #[.pointer (some ⟨b,0,none⟩)]] w0 fun e w'=>e=.returned (.bool (!(xs.all (zEL xs.length))))/\Below w0.heap.size w0 w':=by
 have hix:=zNY p q c cq b xs F w0 hn hn2 hF h hlt hb;have H:=Hold.start w0;obtain⟨bb,hbb⟩:∃ bb,xs.all (zEL xs.length)=bb:=⟨_,rfl⟩;rw[hbb]at hix ⊢;obtain⟨n,hnn⟩:∃ n,xs.length=n:=⟨_,rfl⟩;rw[hnn]at hix ⊢;clear hn hn2 hb h hF hlt hnn hbb
 go_enter Tryz.func51,Tryz.ntmps51
 go_wp2_with (first|fail|(go_at_call 113;refine chR hix H ?_;clear H hix;intro r w hd H))
 go_ret;exact⟨by rw[← hd];rfl,H.below⟩
theorem zPF (p:Option Addr) (c:Nat) (xs:List InstD) (F:Nat->Prop) (w0:World) (hF:∀ b,F b->b<w0.heap.size) (h:InstsR F p c xs w0) :
  Calls Tryz.prog 23 #[.slice p xs.length c] w0 (Rt (.bool (zGL xs)) w0):=by
 have H:=Hold.insts hF h;clear h
 by_cases h1:xs.length<1
 ·have d1:decide ((xs.length:Int)<1)=true:=by simp;omega
  have E:=Lib.hid (show zGL xs=false by unfold zGL;rw[decide_eq_false (by omega),Bool.false_and,Bool.false_and])
  go_enter Tryz.func23,Tryz.ntmps23
  go_wp2_with (first|(first|((with_reducible refine gL ?_);refine aG H ?_)|((with_reducible refine gX ?_);(refine bB H ?_;clear H;intro b w H;try simp only[nr]at H))))
  go_ret;exact⟨by rw[E.out];rfl,H.below⟩
 have d1:decide ((xs.length:Int)<1)=false:=by simp;omega
 by_cases h2:4000<xs.length
 ·have d2:decide ((4000:Int)<(xs.length:Int))=true:=by simp;omega
  have E:=Lib.hid (show zGL xs=false by unfold zGL;rw[decide_eq_false (p:=xs.length<=4000) (by omega),Bool.and_false,Bool.false_and])
  go_enter Tryz.func23,Tryz.ntmps23
  go_wp2_with (first|(first|((with_reducible refine gL ?_);refine aG H ?_)|((with_reducible refine gX ?_);(refine bB H ?_;clear H;intro b w H;try simp only[nr]at H))))
  go_ret;exact⟨by rw[E.out];rfl,H.below⟩
 have d2:decide ((4000:Int)<(xs.length:Int))=false:=by simp;omega
 have E:=Lib.hid (show zGL xs=xs.all (zEL xs.length) by unfold zGL;rw[decide_eq_true (by omega),decide_eq_true (by omega)];rfl)
 have hco:=fun w b (h1:∀ b,F b->b<w.heap.size) (h2:InstsR F p c xs w) (h3:b<w.heap.size) (h4:w.cell? ⟨b,0,none⟩=some (.slice p xs.length c))=>zJE p p c c b xs F w (by omega) (by omega) h1 h2 h3 h4
 clear h1 h2
 go_enter Tryz.func23,Tryz.ntmps23
 go_wp2_with (first|((with_reducible refine kg 1 ?_);(first|refine kA 1 H ?_|refine kS 1 H ?_|refine kB 1 H ?_);clear H;intro b1 w H;try simp only[nr]at H)|((with_reducible refine gL ?_);refine aG H ?_)|(go_at_call 51;refine ch (hco _ b1 (H.knlt (i:=0) .zero) (H.kn (i:=0) .zero) ((Array.getElem?_eq_some_iff.1 (H.blk (i:=1) i_1).2).1) (H.cell (i:=1) i_1 0)) H ?_;clear H;intro w H))
 go_ret;exact⟨by rw[E.out];simp,H.below⟩
theorem zO7 (p:Option Addr) (c:Nat) (xs:List InstD) (F:Nat->Prop) (w0:World) (hF:∀ b,F b->b<w0.heap.size) (h:InstsR F p c xs w0) :
  Calls Tryz.prog 16 #[.slice p xs.length c] w0 (Rt (.int .i64 (zOV xs)) w0):=by
 have hc:=h.bound;have hp:=h.at;have H:=Hold.insts hF h;clear h;obtain⟨n,hn⟩:∃ n,xs.length=n:=⟨_,rfl⟩;rw[hn]at hc hp ⊢;have HN:=Lib.hid hn;clear hn
 go_enter Tryz.func16,Tryz.ntmps16
 go_wp2_with (first|fail)
 go_loopw [3,8] (fun vs ix wr=>∃ (j:Nat),j<=n/\vs=.int .i64 (zHj (xs.take j))/\ix=.int .i64 j/\Hold w0 wr [.kn F (InstsR F p c xs)]) (fun _ ix _=>n+1 - (intOf ix).toNat)
 case atStart=>exact⟨0,by omega,rfl,rfl,H⟩
 case round =>
  clear H;obtain⟨j,hj,rfl,rfl,H⟩:=hrel
  by_cases hlt:j<n
  ·have dj:decide ((j:Int)<(n:Int))=true:=by simp;omega
   obtain⟨x,hx⟩:∃ x,xs[j]?=some x:=⟨_,List.getElem?_eq_getElem (by rw[HN.out];exact hlt)⟩
   obtain⟨b,off,rfl⟩:=hp (by omega)
   have hcell:∀ V,InstsR F (some ⟨b,off,none⟩) c xs V->∀ k,k<9->V.cell? ⟨b,off+j * 9+k,none⟩=(zAL x)[k]?:=fun V h=>h.cells hx rfl
   have E:=Lib.hid (zME hx);clear hx hp
   go_wp2_with (first|((with_reducible refine gL ?_);refine zAM wtd_ _ _ rfl rfl zAg rfl (hcell _ (H.kn (i:=0) .zero)) ?_)|(first|((with_reducible refine gTi ?_);refine aTi H ?_;clear H;intro w H;try simp only[nr]at H)|((with_reducible refine gL ?_);refine aGi H ?_)|((with_reducible refine gA ?_);(refine bA H ?_;clear H;intro b w H;try simp only[nr]at H))))
   all_goals (go_roundw)
   case rel=>exact⟨j+1,by omega,by rw[E.out,show (if zHj (List.take j xs)<x.slot then x.slot else zHj (List.take j xs))=max (zHj (List.take j xs)) x.slot by omega],by go_num,H.pick [0] _ (by decide) rfl⟩
   case measure=>simp[intOf];omega
  ·have hjn:j=n:=by omega
   subst hjn;have dj:decide ((j:Int)<(j:Int))=false:=by simp
   have E:=Lib.hid (show zHj (xs.take j)=zHj xs by rw[List.take_of_length_le (by rw[HN.out];omega)])
   clear hp
   go_wp2_with (first|fail)
   go_ret;exact⟨by unfold zOV;rw[← E.out];rfl,H.below⟩
end
section

end
section
open Go.RowKit Go.Shelf
attribute [local go_sem] Oper.semAt_some
def i64s (xs:List Int):List Value:=xs.map (.int .i64)
def u8s (xs:List Int):List Value:=xs.map (.int .u8)
theorem Rd.i64 {w:World} {b0:Nat} {v:Value} {xs:List Int} (h:Rd w b0 v (i64s xs)) :
  ((∃ q,v=.slice q 0 0)/\xs=[])\/∃ b off cap,v=.slice (some ⟨b,off,none⟩) xs.length cap/\b<b0/\xs.length<=cap/\cap<=maxLen /\
  ∀ j,(h:j<xs.length)->w.cell? ⟨b,off+j,none⟩=some (.int .i64 xs[j]):=by
 rcases h with ⟨h1,h2⟩|⟨b,off,cap,e,h1,h2,h3,h4⟩
 ·exact .inl ⟨h1,by simpa [i64s] using h2⟩
 ·refine .inr ⟨b,off,cap,by simpa [i64s] using e,h1,by simpa [i64s] using h2,h3,fun j hj=>?_⟩
  rw[h4 j (by simpa [i64s] using hj)];simp[i64s]
theorem Rd.u8 {w:World} {b0:Nat} {v:Value} {xs:List Int} (h:Rd w b0 v (u8s xs)) :
  ((∃ q,v=.slice q 0 0)/\xs=[])\/∃ b off cap,v=.slice (some ⟨b,off,none⟩) xs.length cap/\b<b0/\xs.length<=cap/\cap<=maxLen /\
  ∀ j,(h:j<xs.length)->w.cell? ⟨b,off+j,none⟩=some (.int .u8 xs[j]):=by
 rcases h with ⟨h1,h2⟩|⟨b,off,cap,e,h1,h2,h3,h4⟩
 ·exact .inl ⟨h1,by simpa [u8s] using h2⟩
 ·refine .inr ⟨b,off,cap,by simpa [u8s] using e,h1,by simpa [u8s] using h2,h3,fun j hj=>?_⟩
  rw[h4 j (by simpa [u8s] using hj)];simp[u8s]

def zI8 (k i:Int):Int:=1000003 * (k+7)+i
theorem zLW (k i:Int) (w:World) (hk:0<=k/\k<=1000000) (hi:0<=i/\i<=1000000000000):Calls Tryz.prog 115 #[.int .i64 k,.int .i64 i] w fun e w'=>e=.returned (.int .i64 (zI8 k i))/\w=w':=by
 obtain⟨hk1,hk2⟩:=hk;obtain⟨hi1,hi2⟩:=hi
 go_enter Tryz.func115,Tryz.ntmps115
 go_wp2
 go_ret;refine⟨?_,rfl⟩;unfold zI8;rfl
def Lent (b0:Nat) (w:World) (v:Value) (cs extra:List Value):Prop :=
 ∃ g cap,v=.slice (some ⟨g,0,none⟩) cs.length cap/\b0<=g/\g<w.heap.size/\cs.length+12<=cap/\cap<=maxLen/\∀ j,j<cs.length+12->w.cell? ⟨g,j,none⟩=(cs++extra)[j]?
theorem Lent.below {b0:Nat} {w w':World} {v:Value} {cs extra:List Value} (h:Lent b0 w v cs extra) (hb:Below w.heap.size w w'):Lent b0 w' v cs extra:=by
 obtain⟨g,cap,e,h0,h1,h2,h3,h4⟩:=h;exact⟨g,cap,e,h0,by have:=hb.size;omega,h2,h3,fun j hj=>(hb.cell (p:=⟨g,j,none⟩) h1).trans (h4 j hj)⟩
theorem zRD (k:Int) (W:World):(Instr.build 47 #[(2,.int .i64 k)]).run Tryz.prog W=.ok (zAm {kind:=0,next:=k}) W:=by simp[go_sem];rfl
theorem bMkI {ops:Array Oper} {dst:Option Tmp} {ty:TypeId} {pos:String} {aft:Array Edge} {grd:Option (Nat × Bool)} {rest:List Oper} {a:Act} {w:World} {Q:Exit->Act->World->Prop} {x:Operand} {k:Int} (h:wpList Tryz.prog ops Q rest (a.put dst (zAm {kind:=0,next:=k})) w) (hg:Region.wanted (⟨dst,.build 47 #[(2,x)],ty,pos,aft,grd⟩:Oper) (yielded ops a.tmps)=true:=by first|rfl|exact zAZ rfl (zAN rfl (by first|rfl|(simp only[pe];rfl)))) (hx:a.eval x=.int .i64 k:=by first|(simp only[pe];done)|(simp only[pe];rfl)):wpList Tryz.prog ops Q ((⟨dst,.build 47 #[(2,x)],ty,pos,aft,grd⟩:Oper)::rest) a w :=
 zAP hg (by simp only[execOp,List.map_toArray,List.map_cons,List.map_nil,hx,Sem.run_bind,zRD];rfl) h
theorem zOI {P:Program} {ops:Array Oper} {rest:List Oper} {o:Oper} {a:Act} {w w0:World} {Q:Exit->Act->World->Prop} {l:List Res} {M:Nat->Prop} (hg:o.guard=none) (x c:Operand) (t:TypeId) (hop:o.op=Op.makeSlice t x c) (H:HoldG M w0 w l) {e:TypeId} {i:TypeInfo} {z:Value} {sz bytes:Nat}
  (h1:P.underlying t=some (.slice e)) (h2:P.info? e=some i) (h3:i.zero=some z) (h4:i.size=sz) (h5:i.bytes=bytes) {n:Nat} (hl:a.eval x=.int .i64 0) (hc:a.eval c=.int .i64 n) (b2:bytes * n<=281474976710656) (b3:n<=maxLen)
  (h:∀ g w',HoldG M w0 w' (l++[.row (.slice (some ⟨g,0,none⟩) 0 n) e sz 0 []])->wpList P ops Q rest (a.put o.dst (.slice (some ⟨g,0,none⟩) 0 n)) w'):wpList P ops Q (o::rest) a w:=by
 refine wpList_make_own w hg x c t hop w0.heap.size e i z sz h1 h2 h3 h4 .i64 .i64 n n hl hc rfl (by rw[h5];exact b2) b3 H.keep.size (fun w' r1 r2=>h w.heap.size w' ?_)
 exact H.add r2 r1 (fun b e=>by cases e;exact Nat.le_refl _)
theorem zDU {o:Oper} {a:Act} {w:World} {x y:Operand} {U:TypeId} {d:InstD} (hop:o.op=.binOp .eql 47 x y U) (hx:a.eval x=zAm d) (hy:a.eval y=zAm d):(execOp a.eval o).run Tryz.prog w=.ok (.value (.bool true)) w:=by
 have he:=zID d.set d.set w;have hs:eqS d.set d.set=true:=by simp[eqS]
 simp only[execOp,hop,hx,hy];unfold zAm zAL;simp[go_sem,he,hs]
def zEV (s lim r:Nat):Prop:=(s<=lim->r=s)/\(lim<s->lim<r)/\r<=s
theorem zL2 {xs:List TV} {j:Nat} {x:TV} (h:xs[j]?=some x):zAD ((xs.map (·.1)).take (j+1))=zAD ((xs.map (·.1)).take j)+zAC x.1:=zFA (by rw[List.getElem?_map,h];rfl)
theorem zGK (ts:List Tree) (j:Nat):zAD (ts.take j)<=zAD ts:=by
 induction ts generalizing j with
 | nil=>simp
 | cons t ts ih=>cases j with
  | zero=>simp[zAD]
  | succ j=>simp only[List.take_succ_cons,zAD];have:=ih j;omega
theorem zJG (m:Nat) (IH:∀ (t:Tree) (p:Option Addr) (n c:Nat) (F:Nat->Prop) (w0:World) (lim:Nat),zAC t<=m->m<=1000000000->lim<=1000000000->(∀ b,F b->b<w0.heap.size)->ForestR w0 F p c t.kids->n=t.kids.length ->
   Calls Tryz.prog 6 #[zAQ t.d (.slice p n c),.int .i64 lim] w0 fun e w'=>(∃ r:Nat,e=.returned (.int .i64 r)/\zEV (zAC t) lim r)/\Below w0.heap.size w0 w')
  (ts:List Tree) (p:Option Addr) (n c:Nat) (F:Nat->Prop) (w0:World) (lim:Nat) (hm:zAD ts<=m) (hm2:m<=1000000000) (hl2:lim<=1000000000) (hF:∀ b,F b->b<w0.heap.size) (h:ForestR w0 F p c ts) (hn:n=ts.length) :
  Calls Tryz.prog 21 #[.slice p n c,.int .i64 lim] w0 fun e w'=>(∃ r:Nat,e=.returned (.int .i64 r)/\zEV (zAD ts) lim r)/\Below w0.heap.size w0 w':=by
 obtain⟨xs,h1,h2,rfl⟩:=h.open;rw[List.length_map]at hn;rw[← hn]at h1;have hK:Knows F p n c xs w0:=⟨h1,h2⟩;clear h h1 h2;have H:=Hold.knows hF hK;have hc1:=hK.bound.2.1;have hc2:=hK.bound.2.2;have hp:=hK.at;clear hK;have HN:=Lib.hid hn;clear hn
 go_enter Tryz.func21,Tryz.ntmps21
 go_wp2_with (first|fail)
 go_loopw [5,6] (fun k i wr=>∃ (j S:Nat),j<=n/\i=.int .i64 j/\k=.int .i64 (S:Int)/\zEV (zAD ((xs.map (·.1)).take j)) lim S/\Hold w0 wr [.kn F (Knows F p n c xs)]) (fun _ i _=>n+1 - (intOf i).toNat)
 case atStart=>exact⟨0,0,by omega,rfl,rfl,by simp[zAD,zEV],H⟩
 case round =>
  clear H;obtain⟨j,S,hj,rfl,rfl,hC,H⟩:=hrel;have hSb:S<=1000000000:=by have:=hC.2.2;have:=zGK (xs.map (·.1)) j;omega
  by_cases hlt:j<n
  ·have dj:decide ((j:Int)<(n:Int))=true:=by simp;omega
   by_cases hSl:S<=lim
   ·obtain⟨x,hx⟩:∃ x,xs[j]?=some x:=⟨_,List.getElem?_eq_getElem (by rw[← HN.out];exact hlt)⟩
    obtain⟨b,off,rfl⟩:=hp (by rw[← HN.out];omega)
    have hs1:=zCC hx;have HS:=zL2 hx;have hmem:=List.mem_of_getElem? hx;have hcell:∀ V,Knows F (some ⟨b,off,none⟩) n c xs V->∀ k,k<10->V.cell? ⟨b,off+j * 10+k,none⟩=(zAR x)[k]?:=fun V h=>h.cells hx rfl
    have ih:=fun w (hw:∀ b,F b->b<w.heap.size) (hk:Knows F (some ⟨b,off,none⟩) n c xs w)=>IH x.1 x.2.1 _ x.2.2 F w (lim - S) (by omega) hm2 (by omega) hw (hk.2 x hmem) rfl
    have hSe:S=zAD ((xs.map (·.1)).take j):=by
     by_cases h:zAD ((xs.map (·.1)).take j)<=lim
     ·exact hC.1 h
     ·have:=hC.2.1 (by omega);omega
    have HC2:=Lib.hid (show ∀ r,zEV (zAC x.1) (lim - S) r->zEV (zAD ((xs.map (·.1)).take (j+1))) lim (S+r)/\S+r<=1000000000 from fun r hr=>by
     obtain⟨r1,r2,r3⟩:=hr;refine⟨⟨fun h=>?_,fun h=>?_,by omega⟩,by omega⟩
     ·rw[r1 (by omega)];omega
     ·by_cases h':zAC x.1<=lim - S
      ·have:=r1 h';omega
      ·have:=r2 (by omega);omega)
    clear IH hx hmem hp hC HS hs1 hSe;rw[Int.ofNat_sub hSl]at ih;have ds:decide ((S:Int)<=(lim:Int))=true:=decide_eq_true (by omega)
    go_upto_region 5 with (first|fail)
    go_wp2_with (first|((with_reducible refine gL ?_);refine zAM wtd_ _ _ rfl rfl zAK (zAW x) (hcell _ (H.kn .zero)) ?_)|(go_at_call 6;refine(ih _ (H.knlt .zero) (H.kn .zero)).mono (fun e w' hc=>?_);obtain⟨⟨r,rfl,hr⟩,hb⟩:=hc;replace H:=H.call hb;clear hb;have hr2:=(HC2.out r hr).2)|fail)
    go_roundw
    case rel=>exact⟨j+1,S+r,by omega,by go_num,by go_num,(HC2.out r hr).1,H⟩
    case measure=>simp[intOf];omega
   ·have ds:decide ((S:Int)<=(lim:Int))=false:=decide_eq_false (by omega)
    have hfin:zEV (zAD (xs.map (·.1))) lim S:=by
     have h1:=hC.2.2;have h2:=zGK (xs.map (·.1)) j;exact⟨fun h=>by omega,fun _=>by omega,by omega⟩
    clear hC
    go_wp2_with (first|fail)
    go_ret;exact⟨⟨S,rfl,hfin⟩,H.below⟩
  ·have dj:decide ((j:Int)<(n:Int))=false:=by simp;omega
   have hfin:zEV (zAD (xs.map (·.1))) lim S:=by
    rw[List.take_of_length_le (by rw[List.length_map,← HN.out];omega)]at hC
    exact hC
   clear hC
   go_wp2_with (first|fail)
   go_ret;exact⟨⟨S,rfl,hfin⟩,H.below⟩
theorem zGy:∀ (m:Nat) (t:Tree) (p:Option Addr) (n c:Nat) (F:Nat->Prop) (w0:World) (lim:Nat),zAC t<=m->m<=1000000000->lim<=1000000000->(∀ b,F b->b<w0.heap.size)->ForestR w0 F p c t.kids->n=t.kids.length ->
  Calls Tryz.prog 6 #[zAQ t.d (.slice p n c),.int .i64 lim] w0 fun e w'=>(∃ r:Nat,e=.returned (.int .i64 r)/\zEV (zAC t) lim r)/\Below w0.heap.size w0 w'
 | 0,t,_,_,_,_,_,_,hm,_,_,_,_,_=>by have:=zAy t;omega
 | m+1,t,p,n,c,F,w0,lim,hm,hm2,hl2,hF,h,hn=>by
  subst hn;have hs:=zCI t;have H:=(Hold.start w0).know F (fun V=>ForestR V F p c t.kids) hF (fun i r h=>by simp at h) (fun V hV=>h.kept hV)
  simp only[List.nil_append]at H;have ih:=fun w (hw:∀ b,F b->b<w.heap.size) (hk:ForestR w F p c t.kids)=>zJG m (fun t p n c F w0 lim h1 h2=>zGy m t p n c F w0 lim h1 h2) t.kids p _ c F w lim (by omega) (by omega) hl2 hw hk rfl
  have HC2:=Lib.hid (show ∀ r,zEV (zAD t.kids) lim r->zEV (zAC t) lim (1+r)/\r<=1000000000 from fun r hr=>by
   obtain⟨r1,r2,r3⟩:=hr;refine⟨⟨fun h=>?_,fun h=>?_,by omega⟩,by omega⟩
   ·rw[r1 (by omega)];omega
   ·by_cases h':zAD t.kids<=lim
    ·have:=r1 h';omega
    ·have:=r2 (by omega);omega)
  clear h hs
  go_enter Tryz.func6,Tryz.ntmps6
  go_wp2_with (first|((with_reducible refine kg 2 ?_);(first|refine kA 2 H ?_|refine kS 2 H ?_|refine kB 2 H ?_);clear H;intro b2 w H;try simp only[nr]at H)|((with_reducible refine gL ?_);refine aG H ?_)|(go_at_call 21;refine(ih _ (H.knlt .zero) (H.kn .zero)).mono (fun e w' hc=>?_);obtain⟨⟨r,rfl,hr⟩,hb⟩:=hc;replace H:=H.call hb;clear hb;have hr2:=(HC2.out r hr).2))
  go_ret;exact⟨⟨1+r,reti (by omega),(HC2.out r hr).1⟩,H.below⟩
theorem zOG (t:Tree) (p1 p2:Option Addr) (n c1 c2:Nat) (F1 F2:Nat->Prop) (w0:World) (hF1:∀ b,F1 b->b<w0.heap.size) (hF2:∀ b,F2 b->b<w0.heap.size) (h1:ForestR w0 F1 p1 c1 t.kids) (h2:ForestR w0 F2 p2 c2 t.kids) (hn:n=t.kids.length)
  (hN:∀ w:World,(∀ b,F1 b->b<w.heap.size)->(∀ b,F2 b->b<w.heap.size)->ForestR w F1 p1 c1 t.kids->ForestR w F2 p2 c2 t.kids->Calls Tryz.prog 65 #[.slice p1 n c1,.slice p2 n c2] w (Rt (.bool true) w)) :
  Calls Tryz.prog 30 #[zAQ t.d (.slice p1 n c1),zAQ t.d (.slice p2 n c2)] w0 (Rt (.bool true) w0):=by
 clear hn
 have H:=((Hold.start w0).know F1 (fun V=>ForestR V F1 p1 c1 t.kids) hF1 (fun i r h=>by simp at h) (fun V hV=>h1.kept hV)).know F2 (fun V=>ForestR V F2 p2 c2 t.kids) hF2 (fun i r h b hb=>by
  match i,h with
  | 0,h=>cases h;cases hb) (fun V hV=>h2.kept hV)
 simp only[List.nil_append,List.cons_append]at H;clear h1 h2;have hS:eqS t.d.set t.d.set=true:=by simp[eqS]
 obtain⟨d,ks⟩:=t;simp only[Tree.d,Tree.kids]at *
 go_enter Tryz.func30,Tryz.ntmps30
 go_wp2_with (first|((with_reducible refine kg 2 ?_);(first|refine kA 2 H ?_|refine kS 2 H ?_|refine kB 2 H ?_);clear H;intro b2 w H;try simp only[nr]at H)|((with_reducible refine kg 3 ?_);(first|refine kA 3 H ?_|refine kS 3 H ?_|refine kB 3 H ?_);clear H;intro b3 w H;try simp only[nr]at H)|(first|((with_reducible refine gL ?_);(first|refine aVn H ?_|refine aG H ?_))|((with_reducible refine gES ?_);refine qS ?_))|((with_reducible refine ch (hN _ (H.knlt (i:=0) .zero) (H.knlt (i:=1) i_1) (H.kn (i:=0) .zero) (H.kn (i:=1) i_1)) H ?_);clear H;intro w H))
 go_ret;exact⟨rfl,H.below⟩
theorem zIz (m:Nat) (IH:∀ (t:Tree) (p1 p2:Option Addr) (n c1 c2:Nat) (F1 F2:Nat->Prop) (w0:World),zAC t<=m->(∀ b,F1 b->b<w0.heap.size)->(∀ b,F2 b->b<w0.heap.size)->ForestR w0 F1 p1 c1 t.kids->ForestR w0 F2 p2 c2 t.kids->n=t.kids.length ->
   Calls Tryz.prog 30 #[zAQ t.d (.slice p1 n c1),zAQ t.d (.slice p2 n c2)] w0 (Rt (.bool true) w0))
  (ts:List Tree) (p1 p2:Option Addr) (n c1 c2:Nat) (F1 F2:Nat->Prop) (w0:World) (hm:zAD ts<=m) (hF1:∀ b,F1 b->b<w0.heap.size) (hF2:∀ b,F2 b->b<w0.heap.size) (h1:ForestR w0 F1 p1 c1 ts) (h2:ForestR w0 F2 p2 c2 ts) (hn:n=ts.length) :
  Calls Tryz.prog 65 #[.slice p1 n c1,.slice p2 n c2] w0 (Rt (.bool true) w0):=by
 obtain⟨xs,a1,a2,rfl⟩:=h1.open;obtain⟨ys,e1,e2,e3⟩:=h2.open;have hxy:ys.length=xs.length:=by have:=congrArg List.length e3;simpa using this.symm
 rw[List.length_map]at hn;rw[← hn]at a1;rw[hxy,← hn]at e1;have hK1:Knows F1 p1 n c1 xs w0:=⟨a1,a2⟩;have hK2:Knows F2 p2 n c2 ys w0:=⟨e1,e2⟩;clear h1 h2 a1 a2 e1 e2
 have H:=((Hold.start w0).know F1 (Knows F1 p1 n c1 xs) hF1 (fun i r h=>by simp at h) (fun V hV=>hK1.kept hV)).know F2 (Knows F2 p2 n c2 ys) hF2 (fun i r h b hb=>by
  match i,h with
  | 0,h=>cases h;cases hb) (fun V hV=>hK2.kept hV)
 simp only[List.nil_append,List.cons_append]at H;have hc1:=hK1.bound.2.1;have hc2:=hK1.bound.2.2;have hc3:=hK2.bound.2.1;have hc4:=hK2.bound.2.2;have hp1:=hK1.at;have hp2:=hK2.at;clear hK1 hK2;have HN:=Lib.hid (And.intro hn (And.intro hxy e3));clear hn hxy e3
 go_enter Tryz.func65,Tryz.ntmps65
 go_wp2_with (first|fail)
 go_loopw [5] (fun i wr=>∃ j:Nat,j<=n/\i=.int .i64 j/\Hold w0 wr [.kn F1 (Knows F1 p1 n c1 xs),.kn F2 (Knows F2 p2 n c2 ys)]) (fun i _=>n+1 - (intOf i).toNat)
 case atStart=>exact⟨0,by omega,rfl,H⟩
 case round =>
  clear H;obtain⟨j,hj,rfl,H⟩:=hrel
  by_cases hlt:j<n
  ·have dj:decide ((j:Int)<(n:Int))=true:=by simp;omega
   obtain⟨x,hx⟩:∃ x,xs[j]?=some x:=⟨_,List.getElem?_eq_getElem (by rw[← HN.out.1];exact hlt)⟩
   obtain⟨y,hy⟩:∃ y,ys[j]?=some y:=⟨_,List.getElem?_eq_getElem (by rw[HN.out.2.1,← HN.out.1];exact hlt)⟩
   have hxye:x.1=y.1:=by
    have h3:(xs.map (·.1))[j]?=(ys.map (·.1))[j]?:=by rw[HN.out.2.2]
    rw[List.getElem?_map,List.getElem?_map,hx,hy]at h3
    simpa using h3
   obtain⟨b,off,rfl⟩:=hp1 (by rw[← HN.out.1];omega)
   obtain⟨bb,off2,rfl⟩:=hp2 (by rw[HN.out.2.1,← HN.out.1];omega)
   have hs1:=zCC hx;have hm1:=List.mem_of_getElem? hx;have hm2:=List.mem_of_getElem? hy;have hcell:∀ V,Knows F1 (some ⟨b,off,none⟩) n c1 xs V->∀ k,k<10->V.cell? ⟨b,off+j * 10+k,none⟩=(zAR x)[k]?:=fun V h=>h.cells hx rfl
   have hcell2:∀ V,Knows F2 (some ⟨bb,off2,none⟩) n c2 ys V->∀ k,k<10->V.cell? ⟨bb,off2+j * 10+k,none⟩=(zAR y)[k]?:=fun V h=>h.cells hy rfl
   have ih:=fun w (hw:∀ b,F1 b->b<w.heap.size) (hw2:∀ b,F2 b->b<w.heap.size) (hk:Knows F1 (some ⟨b,off,none⟩) n c1 xs w) (hk2:Knows F2 (some ⟨bb,off2,none⟩) n c2 ys w)=>(show Calls Tryz.prog 30 #[.agg (zAR x),.agg (zAR y)] w (Rt (.bool true) w) by
    have h3:=IH x.1 x.2.1 y.2.1 _ x.2.2 y.2.2 F1 F2 w (by omega) hw hw2 (hk.2 x hm1) (by rw[hxye];exact hk2.2 y hm2) rfl
    unfold zAR;rw[← hxye]
    exact h3)
   clear IH hx hy hm1 hm2 hp1 hp2 hxye
   go_upto_region 6 with (first|fail)
   refine wr_ 10 [fun v _=>v=.slice (some ⟨b,off,none⟩) n c1,fun v _=>v=.int .i64 (j:Int),fun v _=>v=.pointer (some ⟨b,off+j * 10,none⟩),fun v _=>v=.agg (zAR x),fun v _=>v=.slice (some ⟨bb,off2,none⟩) n c2,fun v _=>v=.int .i64 (j:Int),fun v _=>v=.pointer (some ⟨bb,off2+j * 10,none⟩),fun v _=>v=.agg (zAR y),fun v _=>v=.bool true,fun v _=>v=.bool false] ?ob ?en
   case ob =>
    refine⟨?_,?_,?_,?_,?_,?_,?_,?_,?_,?_,trivial⟩<;>intro A W h
    ·exact zAB rfl rfl (h.f 0)
    ·exact zAB rfl rfl (h.f 5)
    ·exact zA2 (sz:=10) Tryz.underlying26 (fun w=>by kernel_rfl) rfl rfl (h.d 0 17) (h.d 1 18) (by omega) (by omega)
    ·exact zAA rfl (zAV rfl (h.d 2 19) zAK (zAW x) (hcell _ ((H.call h.below).kn (i:=0) .zero))) (by decide)
    ·exact zAB rfl rfl (h.f 1)
    ·exact zAB rfl rfl (h.f 5)
    ·exact zA2 (sz:=10) Tryz.underlying26 (fun w=>by kernel_rfl) rfl rfl (h.d 4 21) (h.d 5 22) (by omega) (by omega)
    ·exact zAA rfl (zAV rfl (h.d 6 23) zAK (zAW y) (hcell2 _ ((H.call h.below).kn (i:=1) i_1))) (by decide)
    ·exact zBm rfl rfl (enters_of Tryz.func30 (by kernel_rfl) rfl) (zFI ⟨(h.d 3 20),(h.d 7 24)⟩) (ih W ((H.call h.below).knlt (i:=0) .zero) ((H.call h.below).knlt (i:=1) i_1) ((H.call h.below).kn (i:=0) .zero) ((H.call h.below).kn (i:=1) i_1))
    ·(have e25:A.eval (.tmp 25)=.bool true:=h.d 8 25;refine zAA rfl ?_;simp only[execOp,e25];(simp[go_sem]<;>first|done|omega|(rw[IntKind.wrap_i64];omega)|(rw[IntKind.wrap_u8];omega)|(rw[IntKind.wrap_u64];omega)))
   case en =>
    intro vals W hbw hv _;simp only[fa,Nat.reduceAdd];rw[e_ hv 0,e_ hv 1,e_ hv 2,e_ hv 3,e_ hv 4,e_ hv 5,e_ hv 6,e_ hv 7,e_ hv 8,e_ hv 9];clear hv
    try simp only[pl]
    replace H:=H.call hbw;clear hbw
    go_wp2_with (first|fail)
    go_roundw
    case rel=>exact⟨j+1,by omega,by go_num,H⟩
    case measure=>simp[intOf];omega
  ·have dj:decide ((j:Int)<(n:Int))=false:=by simp;omega
   obtain rfl:j=n:=by omega
   go_wp2_with (first|fail)
   go_ret;exact⟨rfl,H.below⟩
theorem zEW:∀ (m:Nat) (t:Tree) (p1 p2:Option Addr) (n c1 c2:Nat) (F1 F2:Nat->Prop) (w0:World),zAC t<=m->(∀ b,F1 b->b<w0.heap.size)->(∀ b,F2 b->b<w0.heap.size)->ForestR w0 F1 p1 c1 t.kids->ForestR w0 F2 p2 c2 t.kids->n=t.kids.length ->
  Calls Tryz.prog 30 #[zAQ t.d (.slice p1 n c1),zAQ t.d (.slice p2 n c2)] w0 (Rt (.bool true) w0)
 | 0,t,_,_,_,_,_,_,_,_,hm,_,_,_,_,_=>by have:=zAy t;omega
 | m+1,t,p1,p2,n,c1,c2,F1,F2,w0,hm,hF1,hF2,h1,h2,hn =>
  zOG t p1 p2 n c1 c2 F1 F2 w0 hF1 hF2 h1 h2 hn fun w g1 g2 k1 k2=>zIz m (zEW m) t.kids p1 p2 n c1 c2 F1 F2 w (by have:=zCI t;omega) g1 g2 k1 k2 hn
def zGc (i:Nat):NodeD:={kind:=0,lo:=zI8 1 i}
theorem zQO (k:Int) (W:World):(Instr.build 28 #[(3,.int .i64 k)]).run Tryz.prog W=.ok (zAQ {kind:=0,lo:=k} nilS) W:=by simp[go_sem];rfl
theorem zGQ (i:Nat) (w0:World) (hi:i<=1000000):Calls Tryz.prog 54 #[.int .i64 1,.int .i64 i] w0 (Rt (zAQ (zGc i) nilS) w0):=by
 have H:=Hold.start w0;have hm:=fun w=>(zLW 1 i w (by omega) (by omega)).mono (R':=fun e w'=>e=.returned (.int .i64 (zI8 1 i))/\Below w.heap.size w w') (fun e w' h=>⟨h.1,by rw[← h.2];exact Below.refl _ _⟩)
 obtain⟨mk,hmk⟩:∃ mk,zI8 1 i=mk:=⟨_,rfl⟩;rw[hmk]at hm;have HM:=Lib.hid hmk;clear hmk
 go_enter Tryz.func54,Tryz.ntmps54
 go_wp2_with (first|((with_reducible refine gBd ?_);refine zAP rfl (v:=zAQ {kind:=0,lo:=mk} nilS) (by simp only[execOp,List.map_toArray,List.map_cons,List.map_nil,Act.eval,List.getD_cons_succ,List.getD_cons_zero,Sem.run_bind,zQO];rfl) ?_)|((with_reducible refine ch (hm _) H ?_);clear H;intro w H)|((with_reducible refine kg 4 ?_);(first|refine kA 4 H ?_|refine kS 4 H ?_|refine kB 4 H ?_);clear H;intro b4 w H;try simp only[nr]at H)|((with_reducible refine gT ?_);(refine aT H ?_;clear H;intro w H;try simp only[nr]at H)))
 refine zHi Tryz.results54 rfl H (i:=0) .zero zAK rfl rfl ?_
 exact⟨by unfold zGc;rw[HM.out];rfl,H.below⟩
def zCh (k:Nat):List (Array Value):=(List.range k).map fun i=>zAO (zGc i) nilS
theorem zKD (k:Nat):zCh (k+1)=zCh k++[zAO (zGc k) nilS]:=by simp[zCh,List.range_succ]
theorem zEo (k:Nat):(zCh k).length=k:=by simp[zCh]
theorem zKx (k:Nat):∀ r ∈ zCh k,r.size=10:=by
 intro r hr;obtain⟨i,_,rfl⟩:=List.mem_map.1 hr;rfl
theorem zMa {k j:Nat} (h:j<k):(zCh k)[j]?=some (zAO (zGc j) nilS):=by simp[zCh,h]
inductive LentR (W:World) (F:Nat->Prop):Option Addr->Nat->List Tree->Prop where
 | mk (p:Option Addr) (c:Nat) (ts:List Tree) (xs:List TV) (h:RdN 10 W F (.slice p (ts.length+12) c) (xs.map zAR++zCh 12)) (hk:∀ x ∈ xs,LentR W F x.2.1 x.2.2 x.1.kids) (e:ts=xs.map (·.1)):LentR W F p c ts
theorem LentR.kept {W V:World} {F:Nat->Prop} {p:Option Addr} {c:Nat} {ts:List Tree} (h:LentR W F p c ts) (hk:∀ b,F b->V.heap[b]?=W.heap[b]?):LentR V F p c ts:=by
 induction h with
 | mk p c ts xs h _ e ih=>exact .mk p c ts xs (h.kept hk) ih e
theorem LentR.mono {W:World} {F G:Nat->Prop} {p:Option Addr} {c:Nat} {ts:List Tree} (h:LentR W F p c ts) (hFG:∀ b,F b->G b):LentR W G p c ts:=by
 induction h with
 | mk p c ts xs h _ e ih=>exact .mk p c ts xs (h.mono hFG) ih e
theorem RdN.pre {sz:Nat} {V:World} {F:Nat->Prop} {q:Option Addr} {n m c:Nat} {xs ys:List (Array Value)} (h:RdN sz V F (.slice q (n+m) c) (xs++ys)) (hn:xs.length=n):RdN sz V F (.slice q n c) xs:=by
 subst hn;obtain⟨p,cap,e,h1,h2,h0,h3⟩:=h;simp only[Value.slice.injEq]at e;obtain⟨rfl,_,rfl⟩:=e;refine⟨q,c,rfl,by simp at h1;omega,h2,h0,fun j r hr=>h3 j r ?_⟩
 rw[List.getElem?_append_left (List.getElem?_eq_some_iff.1 hr).1];exact hr
theorem LentR.forest {W:World} {F:Nat->Prop} {p:Option Addr} {c:Nat} {ts:List Tree} (h:LentR W F p c ts):ForestR W F p c ts:=by
 induction h with
 | mk p c ts xs h _ e ih=>exact .mk p c ts xs (h.pre (by rw[e];simp)) ih e
def LListR (W:World) (F:Nat->Prop) (xs:List TV):Prop:=∀ x ∈ xs,LentR W F x.2.1 x.2.2 x.1.kids
theorem LListR.kept {W V:World} {F:Nat->Prop} {xs:List TV} (h:LListR W F xs) (hk:∀ b,F b->V.heap[b]?=W.heap[b]?):LListR V F xs:=fun x hx=>(h x hx).kept hk
theorem LListR.snoc {W:World} {F G:Nat->Prop} {xs:List TV} {x:TV} (h:LListR W F xs) (k:LentR W G x.2.1 x.2.2 x.1.kids):LListR W (fun b=>F b\/G b) (xs++[x]):=fun y hy=>by
 rcases List.mem_append.1 hy with hy|hy
 ·exact(h y hy).mono (fun _ h=>.inl h)
 ·obtain rfl:=List.mem_singleton.1 hy;exact k.mono (fun _ h=>.inr h)
theorem zKC (d:NodeD) (s v:Value):(zAO d s).setIfInBounds 5 v=zAO d v:=rfl
def zIQ (w:World) (t:Tree) (e:Ending) (w':World):Prop :=
 ∃ p c F,e=.returned (zAQ t.d (.slice p t.kids.length c))/\LentR w' F p c t.kids/\∀ b,F b->b<w'.heap.size/\w.heap.size<=b
def zI4 (w:World) (ts:List Tree) (e:Ending) (w':World):Prop :=
 ∃ p c F,e=.returned (.slice p ts.length c)/\LentR w' F p c ts/\∀ b,F b->b<w'.heap.size/\w.heap.size<=b
section
variable {M:Nat->Prop} {P:Program} {f:FuncId} {args:Array Value} {w w0:World} {l:List Res} {R:Ending->World->Prop}
theorem chLN {t:Tree} (c:Calls P f args w fun e w'=>zIQ w t e w'/\Below w.heap.size w w') (H:HoldG M w0 w l)
  (k:∀ p n F w',(∀ b,F b->w0.heap.size<=b)->HoldG M w0 w' (l++[.kn F (fun V=>LentR V F p n t.kids)])->R (.returned (zAQ t.d (.slice p t.kids.length n))) w'):Calls P f args w R:=c.mono fun _ w' h=>by
 obtain⟨⟨p,n,F,rfl,hs,hF⟩,hb⟩:=h;exact k p n F w' (fun b h=>Nat.le_trans H.keep.size (hF b h).2) (H.learn hb Still.none (fun b h=>⟨(hF b h).1,.inl (hF b h).2⟩) (fun V hV=>hs.kept hV))
theorem zR0 {ts:List Tree} (c:Calls P f args w fun e w'=>zI4 w ts e w'/\Below w.heap.size w w') (H:HoldG M w0 w l)
  (k:∀ p n F w',(∀ b,F b->w0.heap.size<=b)->HoldG M w0 w' (l++[.kn F (fun V=>LentR V F p n ts)])->R (.returned (.slice p ts.length n)) w'):Calls P f args w R:=c.mono fun _ w' h=>by
 obtain⟨⟨p,n,F,rfl,hs,hF⟩,hb⟩:=h;exact k p n F w' (fun b h=>Nat.le_trans H.keep.size (hF b h).2) (H.learn hb Still.none (fun b h=>⟨(hF b h).1,.inl (hF b h).2⟩) (fun V hV=>hs.kept hV))
end
theorem zIv (t:Tree) (p:Option Addr) (n c:Nat) (F:Nat->Prop) (w0:World) (hF:∀ b,F b->b<w0.heap.size) (h:ForestR w0 F p c t.kids) (hn:n=t.kids.length)
  (IH:∀ w:World,(∀ b,F b->b<w.heap.size)->ForestR w F p c t.kids->Calls Tryz.prog 24 #[.slice p t.kids.length c] w fun e w'=>zI4 w t.kids e w'/\Below w.heap.size w w') :
  Calls Tryz.prog 8 #[zAQ t.d (.slice p n c)] w0 fun e w'=>zIQ w0 t e w'/\Below w0.heap.size w0 w':=by
 subst hn;have H:=(Hold.start w0).know F (fun V=>ForestR V F p c t.kids) hF (fun i r h=>by simp at h) (fun V hV=>h.kept hV)
 clear h;simp only[List.nil_append]at H
 go_enter Tryz.func8,Tryz.ntmps8
 go_wp2_with (first|(go_at_call 24;refine zR0 (IH _ (H.knlt .zero) (H.kn .zero)) H ?_;clear H;intro q1 m1 F1 w hF1 H;simp only[ca]at H)|((with_reducible refine gT ?_);refine zAb wtd_ _ _ _ rfl rfl evd_ H (i:=1) i_1 rfl (by show 5<10;omega) (by with_reducible exact zAH zAz) ?_;clear H;intro w H;(rw[zKC]at H);try simp only[nr]at H)|((with_reducible refine kg 1 ?_);(first|refine kA 1 H ?_|refine kS 1 H ?_|refine kB 1 H ?_);clear H;intro b1 w H;try simp only[nr]at H)|((with_reducible refine kg 2 ?_);(first|refine kA 2 H ?_|refine kS 2 H ?_|refine kB 2 H ?_);clear H;intro b2 w H;try simp only[nr]at H)|(first|((with_reducible refine gT ?_);(refine aT H ?_;clear H;intro w H;try simp only[nr]at H))|((with_reducible refine gL ?_);(first|refine aG H ?_|refine aD H ?_))))
 refine zHi Tryz.results8 rfl H (i:=2) i_2 zAK rfl rfl ?_
 exact⟨⟨q1,m1,F1,rfl,H.kn (i:=3) i_3,fun b h=>⟨H.knlt (i:=3) i_3 b h,hF1 b h⟩⟩,H.below⟩
theorem zOD:∃ (i:TypeInfo) (z:Value),Tryz.prog.info? 28=some i/\i.zero=some z/\i.size=10/\i.bytes=96/\z.cells.size=10:=by
 obtain⟨i,hi,hz0,hz1,hz2⟩:=info_parts zB1;exact⟨i,_,hi,hz0,hz1,hz2,rfl⟩
theorem zIZ (m:Nat) (IH:∀ (t:Tree) (p:Option Addr) (n c:Nat) (F:Nat->Prop) (w0:World),zAC t<=m->(∀ b,F b->b<w0.heap.size)->ForestR w0 F p c t.kids->n=t.kids.length ->
   Calls Tryz.prog 8 #[zAQ t.d (.slice p n c)] w0 fun e w'=>zIQ w0 t e w'/\Below w0.heap.size w0 w')
  (ts:List Tree) (p:Option Addr) (n c:Nat) (F:Nat->Prop) (w0:World) (hm:zAD ts<=m) (hm2:m<=1000000000) (hF:∀ b,F b->b<w0.heap.size) (h:ForestR w0 F p c ts) (hn:n=ts.length) :
  Calls Tryz.prog 24 #[.slice p n c] w0 fun e w'=>zI4 w0 ts e w'/\Below w0.heap.size w0 w':=by
 obtain⟨xs,h1,h2,rfl⟩:=h.open;have hn':=hn;rw[List.length_map]at hn;rw[← hn]at h1;have hK:Knows F p n c xs w0:=⟨h1,h2⟩;clear h h1 h2;obtain⟨ii,iz,hii,hi0,hi1,hi2,hi3⟩:=zOD;obtain⟨i0,hj0,hz0,hz1,hz2⟩:=info_parts zB1;have H:=Hold.knows hF hK;have hc1:=hK.bound.2.1;have hc2:=hK.bound.2.2;have hp:=hK.at;clear hK;have hnl:n<=1000000000:=by have:=zBP (xs.map (·.1));omega
 have HN:=Lib.hid hn;have HN2:=Lib.hid hn';clear hn hn'
 go_enter Tryz.func24,Tryz.ntmps24
 go_wp2_with (first|((with_reducible refine gMS ?_);refine zOI rfl _ _ 26 rfl H Tryz.underlying26 hii hi0 hi1 hi2 (n:=n+12) rfl rfl (by omega) (by unfold maxLen;omega) ?_;clear H;intro g w H;simp only[ca]at H)|fail)
 replace H:=H.know (fun _=>False) (fun V=>LListR V (fun _=>False) []) (fun _ h=>h.elim) (fun _ _ _ _ _ h=>h) (fun V _=>fun _ h=>by cases h)
 simp only[List.nil_append,List.cons_append]at H
 go_loopw [3,4] (fun out ix wr=>∃ (j:Nat) (xa:List TV) (vq:Option Addr) (vc:Nat) (Fa:Nat->Prop),j<=n/\ix=.int .i64 j/\out=.slice vq j vc/\xa.length=j/\Hid (xa.map (·.1)=(xs.map (·.1)).take j)/\(∀ b,Fa b->w0.heap.size<=b)/\Hold w0 wr [.kn F (Knows F p n c xs),.row (.slice vq j vc) 28 10 j (zAE (xa.map zAR)),.kn Fa (fun V=>LListR V Fa xa)]) (fun _ ix _=>n+1 - (intOf ix).toNat)
 case atStart=>exact⟨0,[],_,_,fun _=>False,by omega,rfl,rfl,rfl,Lib.hid rfl,fun _ h=>h.elim,H⟩
 case round =>
  clear H;obtain⟨j,xa,vq,vc,Fa,hj,rfl,rfl,hxl,E,hFa,H⟩:=hrel
  by_cases hlt:j<n
  ·have dj:decide ((j:Int)<(n:Int))=true:=by simp;omega
   obtain⟨x,hx⟩:∃ x,xs[j]?=some x:=⟨_,List.getElem?_eq_getElem (by rw[← HN.out];exact hlt)⟩
   obtain⟨b,off,rfl⟩:=hp (by rw[← HN.out];omega)
   have hs1:=zCC hx;have hmem:=List.mem_of_getElem? hx;have hcell:∀ V,Knows F (some ⟨b,off,none⟩) n c xs V->∀ k,k<10->V.cell? ⟨b,off+j * 10+k,none⟩=(zAR x)[k]?:=fun V h=>h.cells hx rfl
   have ih:=fun w (hw:∀ b,F b->b<w.heap.size) (hk:Knows F (some ⟨b,off,none⟩) n c xs w)=>IH x.1 x.2.1 _ x.2.2 F w (by omega) hw (hk.2 x hmem) rfl
   have E2:=Lib.hid (show xa.map (·.1)++[x.1]=(xs.map (·.1)).take (j+1) by rw[E.out,zBc (i:=j) (x:=x.1) (by rw[List.getElem?_map,hx];rfl)])
   have HX:=Lib.hid hxl;clear IH hx hmem hp hs1 hxl
   go_wp2_with (first|((with_reducible refine gL ?_);refine zAM wtd_ _ _ rfl rfl zAK (zAW x) (hcell _ (H.kn (i:=0) .zero)) ?_)|(at_builtin;refine zAk rfl _ _ 26 rfl H (i:=1) (j:=5) evd_ rfl i_1 i_5 Tryz.underlying26 hj0 hz0 hz1 hz2 rfl (by decide) rfl rfl (by unfold maxLen;omega) (by omega) ?_;clear H;intro v2 w H;(try simp only[nr]at H);(obtain⟨q2,c2,rfl,_,_,_⟩:=H.rowShape (i:=1) i_1))|((with_reducible refine gBS ?_);refine zAY wtd_ _ _ _ rfl H (zAO (x.1.d) (.slice q1 x.1.kids.length m1)) 28 (by intro W;simp only[ml];(try simp only[pe]);exact zBQ _ _ W) ?_;clear H;intro bk w H;try simp only[nr]at H)|(go_at_call 8;refine chLN (ih _ (H.knlt .zero) (H.kn .zero)) H ?_;clear H;intro q1 m1 F1 w hF1 H;simp only[ca]at H)|((with_reducible refine kg 5 ?_);(first|refine kA 5 H ?_|refine kS 5 H ?_|refine kB 5 H ?_);clear H;intro b5 w H;try simp only[nr]at H)|(first|((with_reducible refine gT ?_);(refine aT H ?_;clear H;intro w H;try simp only[nr]at H))|((with_reducible refine gL ?_);refine aD H ?_)))
   have HF2:=H.also (fun b=>Fa b\/F1 b) (fun V=>LListR V (fun b=>Fa b\/F1 b) (xa++[(x.1,q1,m1)])) (Still.or (Still.at (i:=2) i_2) (Still.at (i:=3) i_3)) (fun V hV=>LListR.snoc (x:=(x.1,q1,m1)) ((H.kn (i:=2) i_2).kept fun b hb=>hV b (.inl hb)) ((H.kn (i:=3) i_3).kept fun b hb=>hV b (.inr hb)))
   have hfl:zAE (xa.map zAR)++(zAO x.1.d (.slice q1 x.1.kids.length m1)).toList=zAE ((xa++[((x.1,q1,m1):TV)]).map zAR):=by rw[List.map_append,zAo];simp[zAE,zAR]
   rw[hfl]at HF2;have HFL:=Lib.hid hfl;clear hfl;go_roundw
   case rel=>exact⟨j+1,xa++[(x.1,q1,m1)],q2,c2,fun b=>Fa b\/F1 b,by omega,by go_num,rfl,by simp[HX.out],Lib.hid (by rw[List.map_append];exact E2.out),fun b h=>h.elim (hFa b) (hF1 b),HF2.pick [0,1,6] _ (by decide) rfl⟩
   case measure=>simp[intOf];omega
  ·obtain rfl:j=n:=by omega
   have dj:decide ((j:Int)<(j:Int))=false:=by simp
   have EX:=Lib.hid (show xa.map (·.1)=xs.map (·.1) by rw[E.out,List.take_of_length_le (by rw[List.length_map,← HN.out];omega)])
   have HX:=Lib.hid hxl;clear hxl
   go_wp2_with (first|fail)
   go_loopw [3,6] (fun out k wr=>∃ (i:Nat) (q:Option Addr) (c3:Nat),i<=12/\k=.int .i64 i/\out=.slice q (j+i) c3/\Hold w0 wr [.kn F (Knows F p j c xs),.row (.slice q (j+i) c3) 28 10 (j+i) (zAE (xa.map zAR++zCh i)),.kn Fa (fun V=>LListR V Fa xa)]) (fun _ k _=>13 - (intOf k).toNat)
   case atStart=>exact⟨0,vq,vc,by omega,rfl,rfl,by simpa [zCh] using H⟩
   case round =>
    clear H;obtain⟨i,q,c3,hi,rfl,rfl,H⟩:=hrel
    by_cases hlt2:i<12
    ·have di:decide ((i:Int)<12)=true:=decide_eq_true (by omega)
     have HAP:=Lib.hid (show zAE (xa.map zAR++zCh i)++(zAO (zGc i) nilS).toList=zAE (xa.map zAR++zCh (i+1)) by rw[zKD,← List.append_assoc,zAo (xa.map zAR++zCh i)];simp[zAE])
     have hmk:=fun w=>zGQ i w (by omega)
     obtain⟨md,hmd⟩:∃ d,zGc i=d:=⟨_,rfl⟩;rw[hmd]at HAP hmk;clear hmd
     go_wp2_with (first|((with_reducible refine ch (hmk _) H ?_);clear H;intro w H)|((with_reducible refine gBS ?_);refine zAY wtd_ _ _ _ rfl H (zAO (md) (nilS)) 28 (by intro W;simp only[ml];(try simp only[pe]);exact zBQ _ _ W) ?_;clear H;intro bk w H;try simp only[nr]at H)|(at_builtin;refine zAk rfl _ _ 26 rfl H (i:=1) (j:=3) evd_ rfl i_1 i_3 Tryz.underlying26 hj0 hz0 hz1 hz2 rfl (by decide) rfl rfl (by unfold maxLen;omega) (by omega) ?_;clear H;intro v2 w H;(try simp only[nr]at H);(obtain⟨q2,c2,rfl,_,_,_⟩:=H.rowShape (i:=1) i_1))|fail)
     rw[HAP.out]at H;go_roundw
     case rel=>exact⟨i+1,q2,c2,by omega,by go_num,rfl,H.take 3⟩
     case measure=>simp[intOf];omega
    ·obtain rfl:i=12:=by omega
     have di:decide ((12:Int)<12)=false:=by decide
     obtain⟨q2,c2,e2,hc3,_,hq2⟩:=H.rowShape (i:=1) i_1;obtain⟨g2,rfl⟩:=hq2 (by omega)
     simp only[Value.slice.injEq]at e2;obtain⟨rfl,_,rfl⟩:=e2;have hcn:j<=c3:=by omega
     go_wp2_with (first|((with_reducible refine gSl ?_);refine zAP wtd_ (zLj (sz:=10) (m:=j) (by kernel_rfl) (fun w=>by kernel_rfl) rfl rfl rfl hcn) ?_)|fail)
     go_ret;have ho:=H.all 1 _ rfl;have hl:=World.ownsRow.lt ho g2 rfl;refine⟨⟨some ⟨g2,0,none⟩,c3,fun b=>b=g2\/Fa b,by rw[List.length_map,← HN.out];rfl,.mk _ _ _ xa ?_ (fun y hy=>(H.kn (i:=2) i_2 y hy).mono fun _ h=>.inr h) EX.out.symm,fun b hb=>?_⟩,H.below⟩
     ·have h5:=RdN.of_own (V:=wr) ho (fun r hr=>by
       rcases List.mem_append.1 hr with h|h
       ·obtain⟨y,_,rfl⟩:=List.mem_map.1 h;exact zAW y
       ·exact zKx 12 r h) (by simp[zEo,HX.out]) (fun _ _=>rfl)
      rw[List.length_map,← HN.out];exact h5.mono (fun b hb'=>.inl (by have e:some g2=some b:=hb';cases e;rfl))
     ·rcases hb with rfl|hb
      ·exact⟨hl.2,hl.1⟩
      ·exact⟨H.knlt (i:=2) i_2 b hb,hFa b hb⟩
theorem zGU:∀ (m:Nat) (t:Tree) (p:Option Addr) (n c:Nat) (F:Nat->Prop) (w0:World),m<=1000000000->zAC t<=m->(∀ b,F b->b<w0.heap.size)->ForestR w0 F p c t.kids->n=t.kids.length ->
  Calls Tryz.prog 8 #[zAQ t.d (.slice p n c)] w0 fun e w'=>zIQ w0 t e w'/\Below w0.heap.size w0 w'
 | 0,t,_,_,_,_,_,_,hm,_,_,_=>by have:=zAy t;omega
 | m+1,t,p,n,c,F,w0,hm2,hm,hF,h,hn =>
  zIv t p n c F w0 hF h hn fun w g1 k1=>zIZ m (fun t p n c F w0=>zGU m t p n c F w0 (by omega)) t.kids p _ c F w (by have:=zCI t;omega) (by omega) g1 k1 rfl
def KnowsL (F:Nat->Prop) (p:Option Addr) (n c:Nat) (xs:List TV) (V:World):Prop:=RdN 10 V F (.slice p (n+12) c) (xs.map zAR++zCh 12)/\LListR V F xs
section
variable {F:Nat->Prop} {p:Option Addr} {n c:Nat} {xs:List TV} {V W:World}
theorem KnowsL.kept (h:KnowsL F p n c xs W) (hV:∀ b,F b->V.heap[b]?=W.heap[b]?):KnowsL F p n c xs V:=⟨h.1.kept hV,h.2.kept hV⟩
theorem KnowsL.at (h:KnowsL F p n c xs V):∃ b off,p=some ⟨b,off,none⟩:=by
 obtain⟨p',c',e,h1,h2,h0,h3⟩:=h.1
 cases hp:p with
 | none =>
  exfalso
  simp only[Value.slice.injEq]at e;obtain⟨rfl,_,rfl⟩:=e;have:=h0 hp;simp[zEo]at h1;omega
 | some a =>
  have hlt:0<(xs.map zAR++zCh 12).length:=by simp[zEo]
  obtain⟨b,off,e2,_⟩:=h3 0 _ (List.getElem?_eq_getElem hlt);simp only[Value.slice.injEq]at e;obtain⟨rfl,_,rfl⟩:=e;rw[hp]at e2;exact⟨b,off,e2⟩
theorem KnowsL.bound (h:KnowsL F p n c xs V):n+12<=c/\c<=9223372036854775807/\xs.length=n:=by
 obtain⟨p',c',e,h1,h2,_⟩:=h.1;simp only[Value.slice.injEq]at e;obtain⟨rfl,e3,rfl⟩:=e;rw[List.length_append,List.length_map,zEo]at h1 e3;exact⟨by omega,by simpa [maxLen] using h2,by omega⟩
theorem KnowsL.cells {b off:Nat} (h:KnowsL F (some ⟨b,off,none⟩) n c xs V) {j:Nat} {r:Array Value} (hj:(xs.map zAR++zCh 12)[j]?=some r) {q:Nat} (hq:off+j * 10=q):∀ k,k<10->V.cell? ⟨b,q+k,none⟩=r[k]?:=by
 obtain⟨p,c,e1,_,_,_,h3⟩:=h.1;obtain⟨b',off',e2,_,_,h4⟩:=h3 j r hj;simp only[Value.slice.injEq]at e1;obtain⟨rfl,_,rfl⟩:=e1
 cases e2;subst hq
 exact h4
theorem LentR.open {ts:List Tree} (h:LentR W F p c ts):∃ xs:List TV,KnowsL F p ts.length c xs W/\ts=xs.map (·.1):=by
 cases h with
 | mk _ _ _ xs h hk e=>exact⟨xs,⟨h,hk⟩,e⟩
end
theorem zIK (t:Tree) (p1 p2:Option Addr) (n c1 c2:Nat) (F1 F2:Nat->Prop) (w0:World) (hF1:∀ b,F1 b->b<w0.heap.size) (hF2:∀ b,F2 b->b<w0.heap.size) (h1:LentR w0 F1 p1 c1 t.kids) (h2:ForestR w0 F2 p2 c2 t.kids) (hn:n=t.kids.length)
  (hN:∀ w:World,(∀ b,F1 b->b<w.heap.size)->(∀ b,F2 b->b<w.heap.size)->LentR w F1 p1 c1 t.kids->ForestR w F2 p2 c2 t.kids->Calls Tryz.prog 31 #[.slice p1 n c1,.slice p2 n c2] w (Rt (.bool true) w)) :
  Calls Tryz.prog 11 #[zAQ t.d (.slice p1 n c1),zAQ t.d (.slice p2 n c2)] w0 (Rt (.bool true) w0):=by
 have hsm:=fun w (g1:∀ b,F1 b->b<w.heap.size) (g2:∀ b,F2 b->b<w.heap.size) (k1:LentR w F1 p1 c1 t.kids) (k2:ForestR w F2 p2 c2 t.kids)=>zEW (zAC t) t p1 p2 n c1 c2 F1 F2 w (Nat.le_refl _) g1 g2 k1.forest k2 hn
 clear hn
 have H:=((Hold.start w0).know F1 (fun V=>LentR V F1 p1 c1 t.kids) hF1 (fun i r h=>by simp at h) (fun V hV=>h1.kept hV)).know F2 (fun V=>ForestR V F2 p2 c2 t.kids) hF2 (fun i r h b hb=>by
  match i,h with
  | 0,h=>cases h;cases hb) (fun V hV=>h2.kept hV)
 simp only[List.nil_append,List.cons_append]at H;clear h1 h2;obtain⟨d,ks⟩:=t;simp only[Tree.d,Tree.kids]at *
 go_enter Tryz.func11,Tryz.ntmps11
 go_wp2_with (first|((with_reducible refine kg 2 ?_);(first|refine kA 2 H ?_|refine kS 2 H ?_|refine kB 2 H ?_);clear H;intro b2 w H;try simp only[nr]at H)|((with_reducible refine kg 3 ?_);(first|refine kA 3 H ?_|refine kS 3 H ?_|refine kB 3 H ?_);clear H;intro b3 w H;try simp only[nr]at H)|((with_reducible refine gL ?_);(first|refine aG H ?_|refine aD H ?_))|((with_reducible first|refine ch (hsm _ (H.knlt (i:=0) .zero) (H.knlt (i:=1) i_1) (H.kn (i:=0) .zero) (H.kn (i:=1) i_1)) H ?_|refine ch (hN _ (H.knlt (i:=0) .zero) (H.knlt (i:=1) i_1) (H.kn (i:=0) .zero) (H.kn (i:=1) i_1)) H ?_);clear H;intro w H))
 go_ret;exact⟨rfl,H.below⟩
theorem zIg (m:Nat) (IH:∀ (t:Tree) (p1 p2:Option Addr) (n c1 c2:Nat) (F1 F2:Nat->Prop) (w0:World),zAC t<=m->(∀ b,F1 b->b<w0.heap.size)->(∀ b,F2 b->b<w0.heap.size)->LentR w0 F1 p1 c1 t.kids->ForestR w0 F2 p2 c2 t.kids->n=t.kids.length ->
   Calls Tryz.prog 11 #[zAQ t.d (.slice p1 n c1),zAQ t.d (.slice p2 n c2)] w0 (Rt (.bool true) w0))
  (ts:List Tree) (p1 p2:Option Addr) (n c1 c2:Nat) (F1 F2:Nat->Prop) (w0:World) (hm:zAD ts<=m) (hF1:∀ b,F1 b->b<w0.heap.size) (hF2:∀ b,F2 b->b<w0.heap.size) (h1:LentR w0 F1 p1 c1 ts) (h2:ForestR w0 F2 p2 c2 ts) (hn:n=ts.length) (hn2:n<=1000000000) :
  Calls Tryz.prog 31 #[.slice p1 n c1,.slice p2 n c2] w0 (Rt (.bool true) w0):=by
 obtain⟨xs,a1,rfl⟩:=h1.open;obtain⟨ys,e1,e2,e3⟩:=h2.open;have hxy:ys.length=xs.length:=by have:=congrArg List.length e3;simpa using this.symm
 rw[List.length_map]at hn a1;rw[← hn]at a1;rw[hxy,← hn]at e1;have hK1:KnowsL F1 p1 n c1 xs w0:=a1;have hK2:Knows F2 p2 n c2 ys w0:=⟨e1,e2⟩;clear h1 h2 a1 e1 e2
 have H:=((Hold.start w0).know F1 (KnowsL F1 p1 n c1 xs) hF1 (fun i r h=>by simp at h) (fun V hV=>hK1.kept hV)).know F2 (Knows F2 p2 n c2 ys) hF2 (fun i r h b hb=>by
  match i,h with
  | 0,h=>cases h;cases hb) (fun V hV=>hK2.kept hV)
 simp only[List.nil_append,List.cons_append]at H;obtain⟨b,off,rfl⟩:=hK1.at;have HLK:=Lib.hid hK1.bound.1;have hc2:=hK1.bound.2.1;have hc3:=hK2.bound.2.1;have hc4:=hK2.bound.2.2;have hp2:=hK2.at;clear hK1 hK2;have HN:=Lib.hid (And.intro hn (And.intro hxy e3));clear hn hxy e3;have hne:((n:Int) != (n:Int))=false:=by simp
 have hsum:wrap64 ((n:Int)+12)=((n+12:Nat):Int):=by unfold wrap64;omega
 go_enter Tryz.func31,Tryz.ntmps31
 go_wp2_with (first|((with_reducible refine gSl ?_);refine zAP wtd_ (zLj (sz:=10) (m:=n+12) (by kernel_rfl) (fun w=>by kernel_rfl) rfl rfl rfl HLK.out) ?_)|fail)
 go_loopw [6] (fun i wr=>∃ j:Nat,j<=n+12/\i=.int .i64 j/\Hold w0 wr [.kn F1 (KnowsL F1 (some ⟨b,off,none⟩) n c1 xs),.kn F2 (Knows F2 p2 n c2 ys)]) (fun i _=>n+13 - (intOf i).toNat)
 case atStart=>exact⟨0,by omega,rfl,H⟩
 case round =>
  clear H;obtain⟨j,hj,rfl,H⟩:=hrel
  by_cases hlt:j<n+12
  ·have dj2:decide ((j:Int)<((n+12:Nat):Int))=true:=decide_eq_true (by omega)
   have dj3:decide ((j:Int)<(n:Int)+12)=true:=decide_eq_true (by omega)
   by_cases hjn:j<n
   ·obtain⟨x,hx⟩:∃ x,xs[j]?=some x:=⟨_,List.getElem?_eq_getElem (by rw[← HN.out.1];exact hjn)⟩
    obtain⟨y,hy⟩:∃ y,ys[j]?=some y:=⟨_,List.getElem?_eq_getElem (by rw[HN.out.2.1,← HN.out.1];exact hjn)⟩
    have hxye:x.1=y.1:=by
     have h3:(xs.map (·.1))[j]?=(ys.map (·.1))[j]?:=by rw[HN.out.2.2]
     rw[List.getElem?_map,List.getElem?_map,hx,hy]at h3
     simpa using h3
    obtain⟨bb,off2,rfl⟩:=hp2 (by rw[HN.out.2.1,← HN.out.1];omega)
    have hs1:=zCC hx;have hm1:=List.mem_of_getElem? hx;have hm2:=List.mem_of_getElem? hy;have hrx:(xs.map zAR++zCh 12)[j]?=some (zAR x):=by rw[List.getElem?_append_left (by rw[List.length_map,← HN.out.1];exact hjn),List.getElem?_map,hx];rfl
    have HC1:=Lib.hid (fun V (h:KnowsL F1 (some ⟨b,off,none⟩) n c1 xs V)=>h.cells hrx rfl:∀ V,KnowsL F1 (some ⟨b,off,none⟩) n c1 xs V->∀ k,k<10->V.cell? ⟨b,off+j * 10+k,none⟩=(zAR x)[k]?)
    have HC2:=Lib.hid (fun V (h:Knows F2 (some ⟨bb,off2,none⟩) n c2 ys V)=>h.cells hy rfl:∀ V,Knows F2 (some ⟨bb,off2,none⟩) n c2 ys V->∀ k,k<10->V.cell? ⟨bb,off2+j * 10+k,none⟩=(zAR y)[k]?)
    have ih:=fun w (hw:∀ b,F1 b->b<w.heap.size) (hw2:∀ b,F2 b->b<w.heap.size) (hk:KnowsL F1 (some ⟨b,off,none⟩) n c1 xs w) (hk2:Knows F2 (some ⟨bb,off2,none⟩) n c2 ys w)=>(show Calls Tryz.prog 11 #[.agg (zAR x),.agg (zAR y)] w (Rt (.bool true) w) by
     have h3:=IH x.1 x.2.1 y.2.1 _ x.2.2 y.2.2 F1 F2 w (by omega) hw hw2 (hk.2 x hm1) (by rw[hxye];exact hk2.2 y hm2) rfl
     unfold zAR;rw[← hxye]
     exact h3)
    have d1:decide ((j:Int)<(n:Int))=true:=decide_eq_true (by omega)
    have d2:decide ((n:Int)<=(j:Int))=false:=decide_eq_false (by omega)
    clear IH hx hy hm1 hm2 hp2 hxye hrx
    go_upto_region 7 with fail
    refine wr_ 35 [fun v _=>v=.int .i64 (j:Int),fun v _=>v=.slice (some ⟨bb,off2,none⟩) n c2,fun v _=>v=.int .i64 ((n:Nat):Int),fun v _=>v=.bool true,fun v _=>v=.bool true,fun v _=>v=.slice (some ⟨b,off,none⟩) (n+12) c1,fun v _=>v=.int .i64 (j:Int),fun v _=>v=.pointer (some ⟨b,off+j * 10,none⟩),fun v _=>v=.agg (zAR x),fun v _=>v=.slice (some ⟨bb,off2,none⟩) n c2,fun v _=>v=.int .i64 (j:Int),fun v _=>v=.pointer (some ⟨bb,off2+j * 10,none⟩),fun v _=>v=.agg (zAR y),fun v _=>v=.bool true,fun v _=>v=.bool false,fun v _=>v=.bool false,fun v _=>v=.bool false,fun v _=>v=.int .i64 (j:Int),fun v _=>v=.slice (some ⟨bb,off2,none⟩) n c2,fun v _=>v=.int .i64 ((n:Nat):Int),fun v _=>v=.bool false,fun v _=>v=.bool false,fun v _=>v=undef,fun v _=>v=undef,fun v _=>v=undef,fun v _=>v=undef,fun v _=>v=undef,fun v _=>v=undef,fun v _=>v=undef,fun v _=>v=undef,fun v _=>v=undef,fun v _=>v=undef,fun v _=>v=undef,fun v _=>v=Value.bool false,fun v _=>v=Value.bool false] ?ob ?en
    case ob =>
     refine⟨?_,?_,?_,?_,?_,?_,?_,?_,?_,?_,?_,?_,?_,?_,?_,?_,?_,?_,?_,?_,?_,?_,?_,?_,?_,?_,?_,?_,?_,?_,?_,?_,?_,?_,?_,trivial⟩<;>intro A W h
     ·exact zAB rfl rfl (h.f 6)
     ·exact zAB rfl rfl (h.f 1)
     ·exact zDV Tryz.underlying26 rfl rfl (h.d 1 24)
     ·(have e23:A.eval (.tmp 23)=.int .i64 (j:Int):=h.d 0 23;have e25:A.eval (.tmp 25)=.int .i64 ((n:Nat):Int):=h.d 2 25;refine zAA rfl ?_;simp only[execOp,e23,e25];simp[go_sem]<;>omega)
     ·exact zAB rfl rfl (h.d 3 26)
     ·exact zAB (wg (h.d 4 27)) rfl (h.f 5)
     ·exact zAB (wg (h.d 4 27)) rfl (h.f 6)
     ·exact zA2 (sz:=10) Tryz.underlying26 (fun w=>by kernel_rfl) (wg (h.d 4 27)) rfl (h.d 5 28) (h.d 6 29) hlt rfl (by decide)
     ·exact zAA (wg (h.d 4 27)) (zAV rfl (h.d 7 30) zAK (zAW x) (HC1.out _ ((H.call h.below).kn (i:=0) .zero))) (by decide)
     ·exact zAB (wg (h.d 4 27)) rfl (h.f 1)
     ·exact zAB (wg (h.d 4 27)) rfl (h.f 6)
     ·exact zA2 (sz:=10) Tryz.underlying26 (fun w=>by kernel_rfl) (wg (h.d 4 27)) rfl (h.d 9 32) (h.d 10 33) hjn rfl (by decide)
     ·exact zAA (wg (h.d 4 27)) (zAV rfl (h.d 11 34) zAK (zAW y) (HC2.out _ ((H.call h.below).kn (i:=1) i_1))) (by decide)
     ·exact zBm (wg (h.d 4 27)) rfl (enters_of Tryz.func11 (by kernel_rfl) rfl) (zFI ⟨(h.d 8 31),(h.d 12 35)⟩) (ih W ((H.call h.below).knlt (i:=0) .zero) ((H.call h.below).knlt (i:=1) i_1) ((H.call h.below).kn (i:=0) .zero) ((H.call h.below).kn (i:=1) i_1))
     ·(have e36:A.eval (.tmp 36)=.bool true:=h.d 13 36;refine zAA (wg (h.d 4 27)) ?_;simp only[execOp,e36];(simp[go_sem]<;>first|done|omega|(rw[IntKind.wrap_i64];omega)|(rw[IntKind.wrap_u8];omega)|(rw[IntKind.wrap_u64];omega)))
     ·exact zDS rfl rfl (h.d 4 27) (h.d 14 37)
     ·exact zAB rfl rfl (h.d 15 38)
     ·exact zAB (wg (h.d 16 39)) rfl (h.f 6)
     ·exact zAB (wg (h.d 16 39)) rfl (h.f 1)
     ·exact zDV Tryz.underlying26 (wg (h.d 16 39)) rfl (h.d 18 41)
     ·(have e40:A.eval (.tmp 40)=.int .i64 (j:Int):=h.d 17 40;have e42:A.eval (.tmp 42)=.int .i64 ((n:Nat):Int):=h.d 19 42;refine zAA (wg (h.d 16 39)) ?_;simp only[execOp,e40,e42];simp[go_sem]<;>omega)
     ·exact zAB (wg (h.d 16 39)) rfl (h.d 20 43)
     ·exact rsk (h.d 21 44)
     ·exact rsk (h.d 21 44)
     ·exact rsk (h.d 21 44)
     ·exact rsk (h.d 21 44)
     ·exact rsk (h.d 21 44)
     ·exact rsk (h.d 21 44)
     ·exact rsk (h.d 21 44)
     ·exact rsk (h.d 21 44)
     ·exact rsk (h.d 21 44)
     ·exact rsk (h.d 21 44)
     ·exact rsk (h.d 21 44)
     ·exact zDS (wg (h.d 16 39)) rfl (h.d 21 44) (rfl)
     ·exact zDS rfl rfl (h.d 16 39) (h.d 33 56)
    case en =>
     intro vals W hbw hv _;simp only[fa,Nat.reduceAdd];rw[e_ hv 0,e_ hv 1,e_ hv 2,e_ hv 3,e_ hv 4,e_ hv 5,e_ hv 6,e_ hv 7,e_ hv 8,e_ hv 9,e_ hv 10,e_ hv 11,e_ hv 12,e_ hv 13,e_ hv 14,e_ hv 15,e_ hv 16,e_ hv 17,e_ hv 18,e_ hv 19,e_ hv 20,e_ hv 21,e_ hv 22,e_ hv 23,e_ hv 24,e_ hv 25,e_ hv 26,e_ hv 27,e_ hv 28,e_ hv 29,e_ hv 30,e_ hv 31,e_ hv 32,e_ hv 33,e_ hv 34];clear hv
     try simp only[pl]
     replace H:=H.call hbw;clear hbw
     go_wp2_with fail
     go_roundw
     case rel=>exact⟨j+1,by omega,by go_num,H⟩
     case measure=>simp[intOf];omega
   ·obtain⟨k,hk⟩:∃ k,j - n=k:=⟨_,rfl⟩;have hk12:k<12:=by omega
    have hrx:(xs.map zAR++zCh 12)[j]?=some (zAO (zGc k) nilS):=by
     rw[List.getElem?_append_right (by rw[List.length_map,← HN.out.1];omega),List.length_map,← HN.out.1,hk]
     exact zMa hk12
    have HC1:=Lib.hid (fun V (h:KnowsL F1 (some ⟨b,off,none⟩) n c1 xs V)=>h.cells hrx rfl:∀ V,KnowsL F1 (some ⟨b,off,none⟩) n c1 xs V->∀ k',k'<10->V.cell? ⟨b,off+j * 10+k',none⟩=(zAO (zGc k) nilS)[k']?)
    have d1:decide ((j:Int)<(n:Int))=false:=decide_eq_false (by omega)
    have d2:decide ((n:Int)<=(j:Int))=true:=decide_eq_true (by omega)
    have hsb:((j:Nat):Int) - ((n:Nat):Int)=((k:Nat):Int):=by omega
    have hsb1:(-9223372036854775808:Int)<=((k:Nat):Int):=by omega
    have hsb2:((k:Nat):Int)<=9223372036854775807:=by omega
    have hmk:=fun w=>zGQ k w (by omega)
    have hsm:=fun w=>zEW 1 (.mk (zGc k) []) none none 0 0 0 (fun _=>False) (fun _=>False) w (by simp[zAC,zAD]) (fun _ h=>h.elim) (fun _ h=>h.elim) (ForestR.nil ..) (ForestR.nil ..) rfl
    clear hrx hp2 hk IH
    go_upto_region 7 with fail
    refine wr_ 35 [fun v _=>v=.int .i64 (j:Int),fun v _=>v=.slice p2 n c2,fun v _=>v=.int .i64 ((n:Nat):Int),fun v _=>v=.bool false,fun v _=>v=.bool false,fun v _=>v=undef,fun v _=>v=undef,fun v _=>v=undef,fun v _=>v=undef,fun v _=>v=undef,fun v _=>v=undef,fun v _=>v=undef,fun v _=>v=undef,fun v _=>v=undef,fun v _=>v=undef,fun v _=>v=Value.bool false,fun v _=>v=Value.bool false,fun v _=>v=.int .i64 (j:Int),fun v _=>v=.slice p2 n c2,fun v _=>v=.int .i64 ((n:Nat):Int),fun v _=>v=.bool true,fun v _=>v=.bool true,fun v _=>v=.slice (some ⟨b,off,none⟩) (n+12) c1,fun v _=>v=.int .i64 (j:Int),fun v _=>v=.pointer (some ⟨b,off+j * 10,none⟩),fun v _=>v=zAQ (zGc k) nilS,fun v _=>v=.int .i64 (j:Int),fun v _=>v=.slice p2 n c2,fun v _=>v=.int .i64 ((n:Nat):Int),fun v _=>v=.int .i64 (k:Nat),fun v _=>v=zAQ (zGc k) nilS,fun v _=>v=.bool true,fun v _=>v=.bool false,fun v _=>v=.bool false,fun v _=>v=.bool false] ?ob ?en
    case ob =>
     refine⟨?_,?_,?_,?_,?_,?_,?_,?_,?_,?_,?_,?_,?_,?_,?_,?_,?_,?_,?_,?_,?_,?_,?_,?_,?_,?_,?_,?_,?_,?_,?_,?_,?_,?_,?_,trivial⟩<;>intro A W h
     ·exact zAB rfl rfl (h.f 6)
     ·exact zAB rfl rfl (h.f 1)
     ·exact zDV Tryz.underlying26 rfl rfl (h.d 1 24)
     ·(have e23:A.eval (.tmp 23)=.int .i64 (j:Int):=h.d 0 23;have e25:A.eval (.tmp 25)=.int .i64 ((n:Nat):Int):=h.d 2 25;refine zAA rfl ?_;simp only[execOp,e23,e25];simp[go_sem]<;>omega)
     ·exact zAB rfl rfl (h.d 3 26)
     ·exact rsk (h.d 4 27)
     ·exact rsk (h.d 4 27)
     ·exact rsk (h.d 4 27)
     ·exact rsk (h.d 4 27)
     ·exact rsk (h.d 4 27)
     ·exact rsk (h.d 4 27)
     ·exact rsk (h.d 4 27)
     ·exact rsk (h.d 4 27)
     ·exact rsk (h.d 4 27)
     ·exact rsk (h.d 4 27)
     ·exact zDS rfl rfl (h.d 4 27) (rfl)
     ·exact zAB rfl rfl (h.d 15 38)
     ·exact zAB (wg (h.d 16 39)) rfl (h.f 6)
     ·exact zAB (wg (h.d 16 39)) rfl (h.f 1)
     ·exact zDV Tryz.underlying26 (wg (h.d 16 39)) rfl (h.d 18 41)
     ·(have e40:A.eval (.tmp 40)=.int .i64 (j:Int):=h.d 17 40;have e42:A.eval (.tmp 42)=.int .i64 ((n:Nat):Int):=h.d 19 42;refine zAA (wg (h.d 16 39)) ?_;simp only[execOp,e40,e42];simp[go_sem]<;>omega)
     ·exact zAB (wg (h.d 16 39)) rfl (h.d 20 43)
     ·exact zAB (wg (h.d 21 44)) rfl (h.f 5)
     ·exact zAB (wg (h.d 21 44)) rfl (h.f 6)
     ·exact zA2 (sz:=10) Tryz.underlying26 (fun w=>by kernel_rfl) (wg (h.d 21 44)) rfl (h.d 22 45) (h.d 23 46) hlt rfl (by decide)
     ·exact zAA (wg (h.d 21 44)) (zAV rfl (h.d 24 47) zAK rfl (HC1.out _ ((H.call h.below).kn (i:=0) .zero))) (by decide)
     ·exact zAB (wg (h.d 21 44)) rfl (h.f 6)
     ·exact zAB (wg (h.d 21 44)) rfl (h.f 1)
     ·exact zDV Tryz.underlying26 (wg (h.d 21 44)) rfl (h.d 27 50)
     ·exact zAA (wg (h.d 21 44)) (zPZ rfl (h.d 26 49) (h.d 28 51) hsb hsb1 hsb2) (by decide)
     ·exact zBm (wg (h.d 21 44)) rfl (enters_of Tryz.func54 (by kernel_rfl) rfl) (zFI ⟨rfl,(h.d 29 52)⟩) (hmk W)
     ·exact zBm (wg (h.d 21 44)) rfl (enters_of Tryz.func30 (by kernel_rfl) rfl) (zFI ⟨(h.d 25 48),(h.d 30 53)⟩) (hsm W)
     ·(have e54:A.eval (.tmp 54)=.bool true:=h.d 31 54;refine zAA (wg (h.d 21 44)) ?_;simp only[execOp,e54];(simp[go_sem]<;>first|done|omega|(rw[IntKind.wrap_i64];omega)|(rw[IntKind.wrap_u8];omega)|(rw[IntKind.wrap_u64];omega)))
     ·exact zDS (wg (h.d 16 39)) rfl (h.d 21 44) (h.d 32 55)
     ·exact zDS rfl rfl (h.d 16 39) (h.d 33 56)
    case en =>
     intro vals W hbw hv _;simp only[fa,Nat.reduceAdd];rw[e_ hv 0,e_ hv 1,e_ hv 2,e_ hv 3,e_ hv 4,e_ hv 5,e_ hv 6,e_ hv 7,e_ hv 8,e_ hv 9,e_ hv 10,e_ hv 11,e_ hv 12,e_ hv 13,e_ hv 14,e_ hv 15,e_ hv 16,e_ hv 17,e_ hv 18,e_ hv 19,e_ hv 20,e_ hv 21,e_ hv 22,e_ hv 23,e_ hv 24,e_ hv 25,e_ hv 26,e_ hv 27,e_ hv 28,e_ hv 29,e_ hv 30,e_ hv 31,e_ hv 32,e_ hv 33,e_ hv 34];clear hv
     try simp only[pl]
     replace H:=H.call hbw;clear hbw
     go_wp2_with fail
     go_roundw
     case rel=>exact⟨j+1,by omega,by go_num,H⟩
     case measure=>simp[intOf];omega
  ·obtain rfl:j=n+12:=by omega
   have dj2:decide (((n+12:Nat):Int)<((n+12:Nat):Int))=false:=by simp
   have dj3:decide ((n:Int)+12<(n:Int)+12)=false:=by simp
   go_wp2_with fail
   go_ret;exact⟨rfl,H.below⟩
theorem zGF:∀ (m:Nat) (t:Tree) (p1 p2:Option Addr) (n c1 c2:Nat) (F1 F2:Nat->Prop) (w0:World),m<=1000000000->zAC t<=m->(∀ b,F1 b->b<w0.heap.size)->(∀ b,F2 b->b<w0.heap.size)->LentR w0 F1 p1 c1 t.kids->ForestR w0 F2 p2 c2 t.kids->n=t.kids.length ->
  Calls Tryz.prog 11 #[zAQ t.d (.slice p1 n c1),zAQ t.d (.slice p2 n c2)] w0 (Rt (.bool true) w0)
 | 0,t,_,_,_,_,_,_,_,_,_,hm,_,_,_,_,_=>by have:=zAy t;omega
 | m+1,t,p1,p2,n,c1,c2,F1,F2,w0,hm2,hm,hF1,hF2,h1,h2,hn =>
  zIK t p1 p2 n c1 c2 F1 F2 w0 hF1 hF2 h1 h2 hn fun w g1 g2 k1 k2=>zIg m (fun t p1 p2 n c1 c2 F1 F2 w0=>zGF m t p1 p2 n c1 c2 F1 F2 w0 (by omega)) t.kids p1 p2 n c1 c2 F1 F2 w (by have:=zCI t;omega) g1 g2 k1 k2 hn (by have:=zCI t;have:=zBP t.kids;omega)
end
end Go.Proofs.YtalggmbdpmdcbaaGreat
