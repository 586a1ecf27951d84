/-
  Laws of walks, and walks.
-/
import Derived.Test.YtalggmbdpmdcbaaGreatPf6
import Derived.Below
import Derived.Test.YtalggmbdpmdcbaaGreatPf1
import Derived.Deep.CutRange
import Derived.Test.YtalggmbdpmdcbaaGreatPf5
import Derived.Test.YtalggmbdpmdcbaaGreatPf2
import Derived.Test.YtalggmbdpmdcbaaGreatPf9
import Derived.Test.YtalggmbdpmdcbaaGreatPf7
set_option linter.unusedVariables false
set_option linter.unusedSimpArgs false
set_option maxRecDepth 100000
set_option maxHeartbeats 16000000
namespace Go.Proofs.YtalggmbdpmdcbaaGreat
section
open Go.RowKit Go.Shelf
attribute [local go_sem] Oper.semAt_some
section
variable {M:Nat->Prop} {ops:Array Oper} {dst:Option Tmp} {ty:TypeId} {pos:String} {aft:Array Edge} {grd:Option (Nat × Bool)} {rest:List Oper} {a:Act} {w w0:World} {l:List Res} {Q:Exit->Act->World->Prop}
theorem gNI {U:TypeId} {x y:Operand} (h:wpList Tryz.prog ops Q ((⟨dst,.binOp .neq 47 x y U,ty,pos,aft,grd⟩:Oper)::rest) a w):wpList Tryz.prog ops Q ((⟨dst,.binOp .neq 47 x y U,ty,pos,aft,grd⟩:Oper)::rest) a w:=h
theorem nI {U:TypeId} {x y:Operand} {d e:InstD} (h:wpList Tryz.prog ops Q rest (a.put dst (.bool (!(eqI d e)))) w) (hg:Region.wanted (⟨dst,.binOp .neq 47 x y U,ty,pos,aft,grd⟩:Oper) (yielded ops a.tmps)=true:=by first|rfl|exact zAQ rfl (zAI rfl (by first|rfl|(simp only[pe];rfl)))) (hx:a.eval x=zA2 d:=by first|(simp only[pe];done)|(simp only[pe];rfl)) (hy:a.eval y=zA2 e:=by first|(simp only[pe];done)|(simp only[pe];rfl)):wpList Tryz.prog ops Q ((⟨dst,.binOp .neq 47 x y U,ty,pos,aft,grd⟩:Oper)::rest) a w :=
 zAK hg (zLs rfl hx hy) h
end
theorem zMk (x:InstD) (q:Option Addr) (n c b:Nat) (w0:World) (hn:0<n) (hn2:n<=1000000) (hlt:b<w0.heap.size) (hb:w0.cell? ⟨b,0,none⟩=some (.slice q n c)):Calls Tryz.prog 52 #[zA2 x,.pointer (some ⟨b,0,none⟩)] w0 (Rt (.bool (!(zDj n x))) w0):=by
 have H:=(Hold.start w0).know (·=b) (fun V=>V.cell? ⟨b,0,none⟩=some (.slice q n c)) (fun _ h=>by omega) (fun i r h=>by simp at h) (fun V hV=>by rw[← hb];simp[World.cell?,hV b rfl])
 simp only[List.nil_append]at H;have hba:=fun w=>zOx x n w hn hn2
 have E:=Lib.hid (zK1 n hn x)
 cases hz:(zDF n x).2 with
 | true =>
  rw[hz]at hba
  go_enter Tryz.func52,Tryz.ntmps52
  go_wp2_with (first|((with_reducible refine gNI ?_);refine nI ?_)|((with_reducible refine gL ?_);refine zAM wtd_ _ _ rfl rfl zBW (H.kn (i:=0) .zero) ?_)|(first|((with_reducible refine gTi ?_);refine aTi H ?_;clear H;intro w H;try simp only[nr]at H)|((with_reducible refine gLi ?_);refine aLi H ?_)|((with_reducible refine gX ?_);(refine bB H ?_;clear H;intro b w H;try simp only[nr]at H))|((with_reducible refine gA ?_);(refine bA H ?_;clear H;intro b w H;try simp only[nr]at H)))|((with_reducible refine ch (hba _) H ?_);clear H;intro w H))
  go_ret;refine⟨?_,H.below⟩;rw[← E.out,hz];rfl
 | false =>
  rw[hz]at hba
  go_enter Tryz.func52,Tryz.ntmps52
  go_wp2_with (first|((with_reducible refine gL ?_);refine zAM wtd_ _ _ rfl rfl zBW (H.kn (i:=0) .zero) ?_)|(first|((with_reducible refine gTi ?_);refine aTi H ?_;clear H;intro w H;try simp only[nr]at H)|((with_reducible refine gLi ?_);refine aLi H ?_)|((with_reducible refine gX ?_);(refine bB H ?_;clear H;intro b w H;try simp only[nr]at H))|((with_reducible refine gA ?_);(refine bA H ?_;clear H;intro b w H;try simp only[nr]at H)))|((with_reducible refine ch (hba _) H ?_);clear H;intro w H))
  go_ret;refine⟨?_,H.below⟩;rw[← E.out,hz];rfl
theorem zMI (p q:Option Addr) (c cq b:Nat) (xs:List InstD) (F:Nat->Prop) (w0:World) (hn:0<xs.length) (hn2:xs.length<=1000000) (hF:∀ b,F b->b<w0.heap.size) (h:InstsR F p c xs w0) (hlt:b<w0.heap.size) (hb:w0.cell? ⟨b,0,none⟩=some (.slice q xs.length cq)) :
  Calls Tryz.prog 113 #[.slice p xs.length c,.func (.func 52) #[] #[.pointer (some ⟨b,0,none⟩)]] w0 fun e w'=>∃ r:Int,e=.returned (.int .i64 r)/\decide (0<=r)=!(xs.all (zDj xs.length))/\Below w0.heap.size w0 w':=by
 have hc:=h.bound;have hp:=h.at;have H:=Hold.insts hF h
 replace H:=H.know (·=b) (fun V=>V.cell? ⟨b,0,none⟩=some (.slice q xs.length cq)) (fun _ h=>by omega) (fun i r h=>by
  rcases i with _|i
  ·simp at h;subst h;intro b hb;cases hb
  ·simp at h) (fun V hV=>by rw[← hb];simp[World.cell?,hV b rfl])
 simp only[ca]at H;clear h hb;obtain⟨n,hnn⟩:∃ n,xs.length=n:=⟨_,rfl⟩;rw[hnn]at hc hp hn hn2 H ⊢;have HN:=Lib.hid hnn;clear hnn;have hr1:=fun w x (hl:b<w.heap.size) (hb:w.cell? ⟨b,0,none⟩=some (.slice q n cq))=>zMk x q n cq b w hn hn2 hl hb
 go_enter Tryz.func113,Tryz.ntmps113
 go_wp2_with (first|fail)
 go_loopw [8] (fun ix wr=>∃ (j:Nat),j<=n/\ix=.int .i64 j/\Hid ((xs.take j).all (zDj n)=true)/\Hold w0 wr [.kn F (InstsR F p c xs),.kn (·=b) (fun V=>V.cell? ⟨b,0,none⟩=some (.slice q n cq))]) (fun ix _=>n+1 - (intOf ix).toNat)
 case atStart=>exact⟨0,by omega,rfl,Lib.hid rfl,H⟩
 case round =>
  clear H;obtain⟨j,hj,rfl,EA,H⟩:=hrel
  by_cases hlt:j<n
  ·have dj:decide ((j:Int)<(n:Int))=true:=by simp;omega
   obtain⟨x,hx⟩:∃ x,xs[j]?=some x:=⟨_,List.getElem?_eq_getElem (by rw[HN.out];exact hlt)⟩
   obtain⟨b1,off,rfl⟩:=hp (by omega)
   have hcell:∀ V,InstsR F (some ⟨b1,off,none⟩) c xs V->∀ k,k<9->V.cell? ⟨b1,off+j * 9+k,none⟩=(zAJ x)[k]?:=fun V h=>h.cells hx rfl
   cases hr:zDj n x with
   | true =>
    have E:=Lib.hid (zL9 hx EA.out hr);have hr2:=fun w (hl:b<w.heap.size) (hb:w.cell? ⟨b,0,none⟩=some (.slice q n cq))=>hr1 w x hl hb
    rw[hr]at hr2;clear hx hr EA hr1 hp
    go_wp2_with (first|((with_reducible refine gL ?_);refine zAO wtd_ _ _ rfl rfl zAj rfl (hcell _ (H.kn (i:=0) .zero)) ?_)|fail|(go_at_call 52;refine ch (hr2 _ (H.knlt (i:=1) i_1 b rfl) (H.kn (i:=1) i_1)) H ?_;clear H;intro w H))
    go_roundw
    case rel=>exact⟨j+1,by omega,by go_num,E,H⟩
    case measure=>simp[intOf];omega
   | false =>
    have E:=Lib.hid (show xs.all (zDj n)=false by rw[List.all_eq_false];exact⟨x,List.mem_of_getElem? hx,by rw[hr];decide⟩)
    have hr2:=fun w (hl:b<w.heap.size) (hb:w.cell? ⟨b,0,none⟩=some (.slice q n cq))=>hr1 w x hl hb
    rw[hr]at hr2;clear hx hr EA hr1 hp
    go_wp2_with (first|((with_reducible refine gL ?_);refine zAO wtd_ _ _ rfl rfl zAj rfl (hcell _ (H.kn (i:=0) .zero)) ?_)|fail|(go_at_call 52;refine ch (hr2 _ (H.knlt (i:=1) i_1 b rfl) (H.kn (i:=1) i_1)) H ?_;clear H;intro w H))
    go_ret;exact⟨j,rfl,by rw[E.out];simp,H.below⟩
  ·have hjn:j=n:=by omega
   have dj:decide ((j:Int)<(n:Int))=false:=by simp;omega
   have E:=Lib.hid (show xs.all (zDj n)=true by
    have h:=EA.out
    rwa [List.take_of_length_le (by rw[HN.out];omega)]at h)
   clear hp EA hjn hr1
   go_wp2_with (first|fail)
   go_ret;exact⟨-1,rfl,by rw[E.out];simp,H.below⟩
theorem chR {M:Nat->Prop} {P:Program} {f:FuncId} {args:Array Value} {w w0:World} {l:List Res} {D:Int->Prop} {R:Ending->World->Prop} (c:Calls P f args w fun e w'=>∃ r:Int,e=.returned (.int .i64 r)/\D r/\Below w.heap.size w w') (H:HoldG M w0 w l)
  (k:∀ r w',D r->HoldG M w0 w' l->R (.returned (.int .i64 r)) w'):Calls P f args w R:=c.mono fun _ w' ⟨r,e,hd,hb⟩=>by subst e;exact k r w' hd (H.call hb)
theorem zH9 (p q:Option Addr) (c cq b:Nat) (xs:List InstD) (F:Nat->Prop) (w0:World) (hn:0<xs.length) (hn2:xs.length<=1000000) (hF:∀ b,F b->b<w0.heap.size) (h:InstsR F p c xs w0) (hlt:b<w0.heap.size) (hb:w0.cell? ⟨b,0,none⟩=some (.slice q xs.length cq)) :
  Calls Tryz.prog 51 #[.slice p xs.length c,.func (.func 52) #[] #[.pointer (some ⟨b,0,none⟩)]] w0 fun e w'=>e=.returned (.bool (!(xs.all (zDj xs.length))))/\Below w0.heap.size w0 w':=by
 have hix:=zMI p q c cq b xs F w0 hn hn2 hF h hlt hb;have H:=Hold.start w0;obtain⟨bb,hbb⟩:∃ bb,xs.all (zDj xs.length)=bb:=⟨_,rfl⟩;rw[hbb]at hix ⊢;obtain⟨n,hnn⟩:∃ n,xs.length=n:=⟨_,rfl⟩;rw[hnn]at hix ⊢;clear hn hn2 hb h hF hlt hnn hbb
 go_enter Tryz.func51,Tryz.ntmps51
 go_wp2_with (first|fail|(go_at_call 113;refine chR hix H ?_;clear H hix;intro r w hd H))
 go_ret;exact⟨by rw[← hd];rfl,H.below⟩
theorem zND (p:Option Addr) (c:Nat) (xs:List InstD) (F:Nat->Prop) (w0:World) (hF:∀ b,F b->b<w0.heap.size) (h:InstsR F p c xs w0) :
  Calls Tryz.prog 23 #[.slice p xs.length c] w0 (Rt (.bool (zFY xs)) w0):=by
 have H:=Hold.insts hF h;clear h
 by_cases h1:xs.length<1
 ·have d1:decide ((xs.length:Int)<1)=true:=by simp;omega
  have E:=Lib.hid (show zFY xs=false by unfold zFY;rw[decide_eq_false (by omega),Bool.false_and,Bool.false_and])
  go_enter Tryz.func23,Tryz.ntmps23
  go_wp2_with (first|(first|((with_reducible refine gL ?_);refine aG H ?_)|((with_reducible refine gX ?_);(refine bB H ?_;clear H;intro b w H;try simp only[nr]at H))))
  go_ret;exact⟨by rw[E.out];rfl,H.below⟩
 have d1:decide ((xs.length:Int)<1)=false:=by simp;omega
 by_cases h2:4000<xs.length
 ·have d2:decide ((4000:Int)<(xs.length:Int))=true:=by simp;omega
  have E:=Lib.hid (show zFY xs=false by unfold zFY;rw[decide_eq_false (p:=xs.length<=4000) (by omega),Bool.and_false,Bool.false_and])
  go_enter Tryz.func23,Tryz.ntmps23
  go_wp2_with (first|(first|((with_reducible refine gL ?_);refine aG H ?_)|((with_reducible refine gX ?_);(refine bB H ?_;clear H;intro b w H;try simp only[nr]at H))))
  go_ret;exact⟨by rw[E.out];rfl,H.below⟩
 have d2:decide ((4000:Int)<(xs.length:Int))=false:=by simp;omega
 have E:=Lib.hid (show zFY xs=xs.all (zDj xs.length) by unfold zFY;rw[decide_eq_true (by omega),decide_eq_true (by omega)];rfl)
 have hco:=fun w b (h1:∀ b,F b->b<w.heap.size) (h2:InstsR F p c xs w) (h3:b<w.heap.size) (h4:w.cell? ⟨b,0,none⟩=some (.slice p xs.length c))=>zH9 p p c c b xs F w (by omega) (by omega) h1 h2 h3 h4
 clear h1 h2
 go_enter Tryz.func23,Tryz.ntmps23
 go_wp2_with (first|((with_reducible refine kg 1 ?_);(first|refine kA 1 H ?_|refine kS 1 H ?_|refine kB 1 H ?_);clear H;intro b1 w H;try simp only[nr]at H)|((with_reducible refine gL ?_);refine aG H ?_)|(go_at_call 51;refine ch (hco _ b1 (H.knlt (i:=0) .zero) (H.kn (i:=0) .zero) ((Array.getElem?_eq_some_iff.1 (H.blk (i:=1) i_1).2).1) (H.cell (i:=1) i_1 0)) H ?_;clear H;intro w H))
 go_ret;exact⟨by rw[E.out];simp,H.below⟩
theorem zJ5 (p:Option Addr) (c:Nat) (xs:List InstD) (F:Nat->Prop) (w0:World) (hF:∀ b,F b->b<w0.heap.size) (h:InstsR F p c xs w0) :
  Calls Tryz.prog 16 #[.slice p xs.length c] w0 (Rt (.int .i64 (zH0 xs)) w0):=by
 have hc:=h.bound;have hp:=h.at;have H:=Hold.insts hF h;clear h;obtain⟨n,hn⟩:∃ n,xs.length=n:=⟨_,rfl⟩;rw[hn]at hc hp ⊢;have HN:=Lib.hid hn;clear hn
 go_enter Tryz.func16,Tryz.ntmps16
 go_wp2_with (first|fail)
 go_loopw [3,8] (fun vs ix wr=>∃ (j:Nat),j<=n/\vs=.int .i64 (zFI (xs.take j))/\ix=.int .i64 j/\Hold w0 wr [.kn F (InstsR F p c xs)]) (fun _ ix _=>n+1 - (intOf ix).toNat)
 case atStart=>exact⟨0,by omega,rfl,rfl,H⟩
 case round =>
  clear H;obtain⟨j,hj,rfl,rfl,H⟩:=hrel
  by_cases hlt:j<n
  ·have dj:decide ((j:Int)<(n:Int))=true:=by simp;omega
   obtain⟨x,hx⟩:∃ x,xs[j]?=some x:=⟨_,List.getElem?_eq_getElem (by rw[HN.out];exact hlt)⟩
   obtain⟨b,off,rfl⟩:=hp (by omega)
   have hcell:∀ V,InstsR F (some ⟨b,off,none⟩) c xs V->∀ k,k<9->V.cell? ⟨b,off+j * 9+k,none⟩=(zAJ x)[k]?:=fun V h=>h.cells hx rfl
   have E:=Lib.hid (zKw hx);clear hx hp
   go_wp2_with (first|((with_reducible refine gL ?_);refine zAO wtd_ _ _ rfl rfl zAj rfl (hcell _ (H.kn (i:=0) .zero)) ?_)|(first|((with_reducible refine gTi ?_);refine aTi H ?_;clear H;intro w H;try simp only[nr]at H)|((with_reducible refine gL ?_);refine aGi H ?_)|((with_reducible refine gA ?_);(refine bA H ?_;clear H;intro b w H;try simp only[nr]at H))))
   all_goals (go_roundw)
   case rel=>exact⟨j+1,by omega,by rw[E.out,show (if zFI (List.take j xs)<x.slot then x.slot else zFI (List.take j xs))=max (zFI (List.take j xs)) x.slot by omega],by go_num,H.pick [0] _ (by decide) rfl⟩
   case measure=>simp[intOf];omega
  ·have hjn:j=n:=by omega
   subst hjn;have dj:decide ((j:Int)<(j:Int))=false:=by simp
   have E:=Lib.hid (show zFI (xs.take j)=zFI xs by rw[List.take_of_length_le (by rw[HN.out];omega)])
   clear hp
   go_wp2_with (first|fail)
   go_ret;exact⟨by unfold zH0;rw[← E.out];rfl,H.below⟩
end
section

end
section
open Go.RowKit Go.Shelf
attribute [local go_sem] Oper.semAt_some
def i64s (xs:List Int):List Value:=xs.map (.int .i64)
def u8s (xs:List Int):List Value:=xs.map (.int .u8)
theorem Rd.i64 {w:World} {b0:Nat} {v:Value} {xs:List Int} (h:Rd w b0 v (i64s xs)) :
  ((∃ q,v=.slice q 0 0)/\xs=[])\/∃ b off cap,v=.slice (some ⟨b,off,none⟩) xs.length cap/\b<b0/\xs.length<=cap/\cap<=maxLen /\
  ∀ j,(h:j<xs.length)->w.cell? ⟨b,off+j,none⟩=some (.int .i64 xs[j]):=by
 rcases h with ⟨h1,h2⟩|⟨b,off,cap,e,h1,h2,h3,h4⟩
 ·exact .inl ⟨h1,by simpa [i64s] using h2⟩
 ·refine .inr ⟨b,off,cap,by simpa [i64s] using e,h1,by simpa [i64s] using h2,h3,fun j hj=>?_⟩
  rw[h4 j (by simpa [i64s] using hj)];simp[i64s]
theorem Rd.u8 {w:World} {b0:Nat} {v:Value} {xs:List Int} (h:Rd w b0 v (u8s xs)) :
  ((∃ q,v=.slice q 0 0)/\xs=[])\/∃ b off cap,v=.slice (some ⟨b,off,none⟩) xs.length cap/\b<b0/\xs.length<=cap/\cap<=maxLen /\
  ∀ j,(h:j<xs.length)->w.cell? ⟨b,off+j,none⟩=some (.int .u8 xs[j]):=by
 rcases h with ⟨h1,h2⟩|⟨b,off,cap,e,h1,h2,h3,h4⟩
 ·exact .inl ⟨h1,by simpa [u8s] using h2⟩
 ·refine .inr ⟨b,off,cap,by simpa [u8s] using e,h1,by simpa [u8s] using h2,h3,fun j hj=>?_⟩
  rw[h4 j (by simpa [u8s] using hj)];simp[u8s]

def zPw (k i:Int):Int:=1000003 * (k+7)+i
def Lent (b0:Nat) (w:World) (v:Value) (cs extra:List Value):Prop :=
 ∃ g cap,v=.slice (some ⟨g,0,none⟩) cs.length cap/\b0<=g/\g<w.heap.size/\cs.length+12<=cap/\cap<=maxLen/\∀ j,j<cs.length+12->w.cell? ⟨g,j,none⟩=(cs++extra)[j]?
theorem Lent.below {b0:Nat} {w w':World} {v:Value} {cs extra:List Value} (h:Lent b0 w v cs extra) (hb:Below w.heap.size w w'):Lent b0 w' v cs extra:=by
 obtain⟨g,cap,e,h0,h1,h2,h3,h4⟩:=h;exact⟨g,cap,e,h0,by have:=hb.size;omega,h2,h3,fun j hj=>(hb.cell (p:=⟨g,j,none⟩) h1).trans (h4 j hj)⟩

def zDs (s lim r:Nat):Prop:=(s<=lim->r=s)/\(lim<s->lim<r)/\r<=s
theorem zKT {xs:List TV} {j:Nat} {x:TV} (h:xs[j]?=some x):zAF ((xs.map (·.1)).take (j+1))=zAF ((xs.map (·.1)).take j)+zAB x.1:=zET (by rw[List.getElem?_map,h];rfl)
theorem zFU (ts:List Tree) (j:Nat):zAF (ts.take j)<=zAF ts:=by
 induction ts generalizing j with
 | nil=>simp
 | cons t ts ih=>cases j with
  | zero=>simp[zAF]
  | succ j=>simp only[List.take_succ_cons,zAF];have:=ih j;omega
theorem zIn (m:Nat) (IH:∀ (t:Tree) (p:Option Addr) (n c:Nat) (F:Nat->Prop) (w0:World) (lim:Nat),zAB t<=m->m<=1000000000->lim<=1000000000->(∀ b,F b->b<w0.heap.size)->ForestR w0 F p c t.kids->n=t.kids.length ->
   Calls Tryz.prog 6 #[zAV t.d (.slice p n c),.int .i64 lim] w0 fun e w'=>(∃ r:Nat,e=.returned (.int .i64 r)/\zDs (zAB t) lim r)/\Below w0.heap.size w0 w')
  (ts:List Tree) (p:Option Addr) (n c:Nat) (F:Nat->Prop) (w0:World) (lim:Nat) (hm:zAF ts<=m) (hm2:m<=1000000000) (hl2:lim<=1000000000) (hF:∀ b,F b->b<w0.heap.size) (h:ForestR w0 F p c ts) (hn:n=ts.length) :
  Calls Tryz.prog 21 #[.slice p n c,.int .i64 lim] w0 fun e w'=>(∃ r:Nat,e=.returned (.int .i64 r)/\zDs (zAF ts) lim r)/\Below w0.heap.size w0 w':=by
 obtain⟨xs,h1,h2,rfl⟩:=h.open;rw[List.length_map]at hn;rw[← hn]at h1;have hK:Knows F p n c xs w0:=⟨h1,h2⟩;clear h h1 h2;have H:=Hold.knows hF hK;have hc1:=hK.bound.2.1;have hc2:=hK.bound.2.2;have hp:=hK.at;clear hK;have HN:=Lib.hid hn;clear hn
 go_enter Tryz.func21,Tryz.ntmps21
 go_wp2_with (first|fail)
 go_loopw [5,6] (fun k i wr=>∃ (j S:Nat),j<=n/\i=.int .i64 j/\k=.int .i64 (S:Int)/\zDs (zAF ((xs.map (·.1)).take j)) lim S/\Hold w0 wr [.kn F (Knows F p n c xs)]) (fun _ i _=>n+1 - (intOf i).toNat)
 case atStart=>exact⟨0,0,by omega,rfl,rfl,by simp[zAF,zDs],H⟩
 case round =>
  clear H;obtain⟨j,S,hj,rfl,rfl,hC,H⟩:=hrel;have hSb:S<=1000000000:=by have:=hC.2.2;have:=zFU (xs.map (·.1)) j;omega
  by_cases hlt:j<n
  ·have dj:decide ((j:Int)<(n:Int))=true:=by simp;omega
   by_cases hSl:S<=lim
   ·obtain⟨x,hx⟩:∃ x,xs[j]?=some x:=⟨_,List.getElem?_eq_getElem (by rw[← HN.out];exact hlt)⟩
    obtain⟨b,off,rfl⟩:=hp (by rw[← HN.out];omega)
    have hs1:=zEs hx;have HS:=zKT hx;have hmem:=List.mem_of_getElem? hx;have hcell:∀ V,Knows F (some ⟨b,off,none⟩) n c xs V->∀ k,k<10->V.cell? ⟨b,off+j * 10+k,none⟩=(zAT x)[k]?:=fun V h=>h.cells hx rfl
    have ih:=fun w (hw:∀ b,F b->b<w.heap.size) (hk:Knows F (some ⟨b,off,none⟩) n c xs w)=>IH x.1 x.2.1 _ x.2.2 F w (lim - S) (by omega) hm2 (by omega) hw (hk.2 x hmem) rfl
    have hSe:S=zAF ((xs.map (·.1)).take j):=by
     by_cases h:zAF ((xs.map (·.1)).take j)<=lim
     ·exact hC.1 h
     ·have:=hC.2.1 (by omega);omega
    have HC2:=Lib.hid (show ∀ r,zDs (zAB x.1) (lim - S) r->zDs (zAF ((xs.map (·.1)).take (j+1))) lim (S+r)/\S+r<=1000000000 from fun r hr=>by
     obtain⟨r1,r2,r3⟩:=hr;refine⟨⟨fun h=>?_,fun h=>?_,by omega⟩,by omega⟩
     ·rw[r1 (by omega)];omega
     ·by_cases h':zAB x.1<=lim - S
      ·have:=r1 h';omega
      ·have:=r2 (by omega);omega)
    clear IH hx hmem hp hC HS hs1 hSe;rw[Int.ofNat_sub hSl]at ih;have ds:decide ((S:Int)<=(lim:Int))=true:=decide_eq_true (by omega)
    go_upto_region 5 with (first|fail)
    go_wp2_with (first|((with_reducible refine gL ?_);refine zAO wtd_ _ _ rfl rfl zAP (zAl x) (hcell _ (H.kn .zero)) ?_)|(go_at_call 6;refine(ih _ (H.knlt .zero) (H.kn .zero)).mono (fun e w' hc=>?_);obtain⟨⟨r,rfl,hr⟩,hb⟩:=hc;replace H:=H.call hb;clear hb;have hr2:=(HC2.out r hr).2)|fail)
    go_roundw
    case rel=>exact⟨j+1,S+r,by omega,by go_num,by go_num,(HC2.out r hr).1,H⟩
    case measure=>simp[intOf];omega
   ·have ds:decide ((S:Int)<=(lim:Int))=false:=decide_eq_false (by omega)
    have hfin:zDs (zAF (xs.map (·.1))) lim S:=by
     have h1:=hC.2.2;have h2:=zFU (xs.map (·.1)) j;exact⟨fun h=>by omega,fun _=>by omega,by omega⟩
    clear hC
    go_wp2_with (first|fail)
    go_ret;exact⟨⟨S,rfl,hfin⟩,H.below⟩
  ·have dj:decide ((j:Int)<(n:Int))=false:=by simp;omega
   have hfin:zDs (zAF (xs.map (·.1))) lim S:=by
    rw[List.take_of_length_le (by rw[List.length_map,← HN.out];omega)]at hC
    exact hC
   clear hC
   go_wp2_with (first|fail)
   go_ret;exact⟨⟨S,rfl,hfin⟩,H.below⟩
theorem zF2:∀ (m:Nat) (t:Tree) (p:Option Addr) (n c:Nat) (F:Nat->Prop) (w0:World) (lim:Nat),zAB t<=m->m<=1000000000->lim<=1000000000->(∀ b,F b->b<w0.heap.size)->ForestR w0 F p c t.kids->n=t.kids.length ->
  Calls Tryz.prog 6 #[zAV t.d (.slice p n c),.int .i64 lim] w0 fun e w'=>(∃ r:Nat,e=.returned (.int .i64 r)/\zDs (zAB t) lim r)/\Below w0.heap.size w0 w'
 | 0,t,_,_,_,_,_,_,hm,_,_,_,_,_=>by have:=zBX t;omega
 | m+1,t,p,n,c,F,w0,lim,hm,hm2,hl2,hF,h,hn=>by
  subst hn;have hs:=zC0 t;have H:=(Hold.start w0).know F (fun V=>ForestR V F p c t.kids) hF (fun i r h=>by simp at h) (fun V hV=>h.kept hV)
  simp only[List.nil_append]at H;have ih:=fun w (hw:∀ b,F b->b<w.heap.size) (hk:ForestR w F p c t.kids)=>zIn m (fun t p n c F w0 lim h1 h2=>zF2 m t p n c F w0 lim h1 h2) t.kids p _ c F w lim (by omega) (by omega) hl2 hw hk rfl
  have HC2:=Lib.hid (show ∀ r,zDs (zAF t.kids) lim r->zDs (zAB t) lim (1+r)/\r<=1000000000 from fun r hr=>by
   obtain⟨r1,r2,r3⟩:=hr;refine⟨⟨fun h=>?_,fun h=>?_,by omega⟩,by omega⟩
   ·rw[r1 (by omega)];omega
   ·by_cases h':zAF t.kids<=lim
    ·have:=r1 h';omega
    ·have:=r2 (by omega);omega)
  clear h hs
  go_enter Tryz.func6,Tryz.ntmps6
  go_wp2_with (first|((with_reducible refine kg 2 ?_);(first|refine kA 2 H ?_|refine kS 2 H ?_|refine kB 2 H ?_);clear H;intro b2 w H;try simp only[nr]at H)|((with_reducible refine gL ?_);refine aG H ?_)|(go_at_call 21;refine(ih _ (H.knlt .zero) (H.kn .zero)).mono (fun e w' hc=>?_);obtain⟨⟨r,rfl,hr⟩,hb⟩:=hc;replace H:=H.call hb;clear hb;have hr2:=(HC2.out r hr).2))
  go_ret;exact⟨⟨1+r,reti (by omega),(HC2.out r hr).1⟩,H.below⟩
def zQE (i:Nat):NodeD:={kind:=0,lo:=zPw 1 i}
def zG8 (k:Nat):List (Array Value):=(List.range k).map fun i=>zAR (zQE i) nilS
theorem zHH (k:Nat):(zG8 k).length=k:=by simp[zG8]
inductive LentR (W:World) (F:Nat->Prop):Option Addr->Nat->List Tree->Prop where
 | mk (p:Option Addr) (c:Nat) (ts:List Tree) (xs:List TV) (h:RdN 10 W F (.slice p (ts.length+12) c) (xs.map zAT++zG8 12)) (hk:∀ x ∈ xs,LentR W F x.2.1 x.2.2 x.1.kids) (e:ts=xs.map (·.1)):LentR W F p c ts
theorem LentR.mono {W:World} {F G:Nat->Prop} {p:Option Addr} {c:Nat} {ts:List Tree} (h:LentR W F p c ts) (hFG:∀ b,F b->G b):LentR W G p c ts:=by
 induction h with
 | mk p c ts xs h _ e ih=>exact .mk p c ts xs (h.mono hFG) ih e
def zPn (W:World) (F:Nat->Prop) (xs:List TV):Prop:=∀ x ∈ xs,LentR W F x.2.1 x.2.2 x.1.kids
section
variable {M:Nat->Prop} {P:Program} {f:FuncId} {args:Array Value} {w w0:World} {l:List Res} {R:Ending->World->Prop}
end
def KnowsL (F:Nat->Prop) (p:Option Addr) (n c:Nat) (xs:List TV) (V:World):Prop:=RdN 10 V F (.slice p (n+12) c) (xs.map zAT++zG8 12)/\zPn V F xs
section
variable {F:Nat->Prop} {p:Option Addr} {n c:Nat} {xs:List TV} {V W:World}
theorem KnowsL.at (h:KnowsL F p n c xs V):∃ b off,p=some ⟨b,off,none⟩:=by
 obtain⟨p',c',e,h1,h2,h0,h3⟩:=h.1
 cases hp:p with
 | none =>
  exfalso
  simp only[Value.slice.injEq]at e;obtain⟨rfl,_,rfl⟩:=e;have:=h0 hp;simp[zHH]at h1;omega
 | some a =>
  have hlt:0<(xs.map zAT++zG8 12).length:=by simp[zHH]
  obtain⟨b,off,e2,_⟩:=h3 0 _ (List.getElem?_eq_getElem hlt);simp only[Value.slice.injEq]at e;obtain⟨rfl,_,rfl⟩:=e;rw[hp]at e2;exact⟨b,off,e2⟩
theorem KnowsL.cells {b off:Nat} (h:KnowsL F (some ⟨b,off,none⟩) n c xs V) {j:Nat} {r:Array Value} (hj:(xs.map zAT++zG8 12)[j]?=some r) {q:Nat} (hq:off+j * 10=q):∀ k,k<10->V.cell? ⟨b,q+k,none⟩=r[k]?:=by
 obtain⟨p,c,e1,_,_,_,h3⟩:=h.1;obtain⟨b',off',e2,_,_,h4⟩:=h3 j r hj;simp only[Value.slice.injEq]at e1;obtain⟨rfl,_,rfl⟩:=e1
 cases e2;subst hq
 exact h4
end
end
section
open Go.RowKit
theorem zE0 {w w':World} {base:Nat} {e:TypeId} {s:Nat} {v:Value} {n:Nat} {xs:List Value} {row:Option Nat} (h:w.ownsRow base e s v n xs) (hg:w.grownBy w' row) (hr:∀ g,row=some g->v.ownBlock≠some g):w'.ownsRow base e s v n xs:=by
 obtain⟨hl,h'|⟨g,cap,cur,rfl,hb,hgk,r⟩⟩:=h
 ·exact⟨hl,.inl h'⟩
 ·refine⟨hl,.inr ⟨g,cap,cur,rfl,hb,?_,r⟩⟩;exact(hg.block g (Array.getElem?_eq_some_iff.1 hgk).1 (fun e=>hr g e.symm rfl)).trans hgk
theorem zEd {w:World} {base:Nat} {e:TypeId} {s:Nat} {v:Value} {n:Nat} {xs:List Value} {g:Nat} (h:w.ownsRow base e s v n xs) (hb:v.ownBlock=some g):g<w.heap.size/\base<=g/\∃ cur,w.heap[g]?=some (.cells cur e (0,0)):=by
 obtain⟨_,⟨rfl,_⟩|⟨g',cap,cur,rfl,h1,h2,_⟩⟩:=h
 ·cases hb
 ·simp[Value.ownBlock]at hb;subst hb;exact⟨(Array.getElem?_eq_some_iff.1 h2).1,h1,cur,h2⟩
theorem zDE {w:World} {base g n cap s:Nat} {e:TypeId} {xs:List Value} (h:w.ownsRow base e s (.slice (some ⟨g,0,none⟩) n cap) n xs) {k:Nat} (hk:k<n * s):w.cell? ⟨g,k,none⟩=xs[k]?:=by
 obtain⟨hl,⟨h',_⟩|⟨g',cap',cur,e1,h1,h2,h3,h4,h5,h6⟩⟩:=h
 ·cases h'
 ·cases e1
  rw[cell_of_row w g k _ _ _ h2,← h6,List.getElem?_take_of_lt hk];simp
def Grow (w w':World) (v v':Value):Prop :=
 (∃ g n m c,v=.slice (some ⟨g,0,none⟩) n c/\v'=.slice (some ⟨g,0,none⟩) m c/\n<=m/\w.grownBy w' (some g))\/((∃ m c,v'=.slice (some ⟨w.heap.size,0,none⟩) m c)/\w.grownBy w' none)
theorem Grow.any {w w':World} {v v':Value} (h:Grow w w' v v'):w.grownBy w' v.ownBlock:=by
 rcases h with ⟨g,n,m,c,rfl,rfl,_,h⟩|⟨_,h⟩
 ·exact h
 ·exact⟨h.os,h.tape,h.output,h.size,fun k hk _=>h.block k hk (by simp)⟩
structure Fam (e:TypeId) (sz base:Nat) (w:World) (K:Nat) (V U:Nat->Value) (N M:Nat->Nat) (X Y:Nat->List Value):Prop where
 v:∀ j,j<K->w.ownsRow base e sz (V j) (N j) (X j)
 u:∀ j,j<K->w.ownsRow base e sz (U j) (M j) (Y j)
 link:∀ j,j<K->∀ g n c m d,V j=.slice (some ⟨g,0,none⟩) n c->U j=.slice (some ⟨g,0,none⟩) m d->n<=m/\c=d
 sep:∀ i j,i<K->j<K->i≠j->∀ g,((V i).ownBlock=some g\/(U i).ownBlock=some g)->¬ ((V j).ownBlock=some g\/(U j).ownBlock=some g)
section
variable {e:TypeId} {sz base:Nat} {w:World} {K:Nat} {V U:Nat->Value} {N M:Nat->Nat} {X Y:Nat->List Value}
theorem Fam.grown {w':World} {row:Option Nat} (h:Fam e sz base w K V U N M X Y) (hg:w.grownBy w' row) (hr:∀ g,row=some g->∀ j,j<K->(V j).ownBlock≠some g/\(U j).ownBlock≠some g):Fam e sz base w' K V U N M X Y :=
 ⟨fun j hj=>zE0 (h.v j hj) hg (fun g e=>(hr g e j hj).1),fun j hj=>zE0 (h.u j hj) hg (fun g e=>(hr g e j hj).2),h.link,h.sep⟩
theorem Fam.below {w':World} (h:Fam e sz base w K V U N M X Y) (hb:Below w.heap.size w w'):Fam e sz base w' K V U N M X Y :=
 ⟨fun j hj=>zHy (h.v j hj) hb,fun j hj=>zHy (h.u j hj) hb,h.link,h.sep⟩
theorem Fam.other (h:Fam e sz base w K V U N M X Y) {g:Nat} {cur:Array Value} {e2:TypeId} {f:Nat × Nat} (hg:w.heap[g]?=some (.cells cur e2 f)) (hne:e≠e2):∀ j,j<K->(V j).ownBlock≠some g/\(U j).ownBlock≠some g:=by
 intro j hj;constructor
 ·intro hb;obtain⟨_,_,cur',h'⟩:=zEd (h.v j hj) hb;rw[hg]at h';cases h';exact hne rfl
 ·intro hb;obtain⟨_,_,cur',h'⟩:=zEd (h.u j hj) hb;rw[hg]at h';cases h';exact hne rfl
end
section
variable {e:TypeId} {sz base:Nat} {w:World} {K:Nat} {V U:Nat->Value} {N M:Nat->Nat} {X Y:Nat->List Value}
theorem Fam.put (h:Fam e sz base w K V V N N X X) {w':World} {k g:Nat} {X':List Value} (hk:k<K) (hb:(V k).ownBlock=some g) (hg:w.grownBy w' (some g)) (ho:w'.ownsRow base e sz (V k) (N k) X') :
  Fam e sz base w' K V V N N (fun j=>if j=k then X' else X j) (fun j=>if j=k then X' else X j):=by
 have key:∀ j,j<K->w'.ownsRow base e sz (V j) (N j) (if j=k then X' else X j):=by
  intro j hj
  by_cases hjk:j=k
  ·subst hjk;simpa using ho
  ·simp only[if_neg hjk];refine zE0 (h.v j hj) hg (fun g' e hb'=>?_)
   cases e
   exact h.sep k j hk hj (fun e=>hjk e.symm) g (.inl hb) (.inl hb')
 exact⟨key,key,h.link,h.sep⟩
end
end
section
open Go.RowKit Go.Shelf
attribute [local go_sem] Oper.semAt_some
def zQQ (k i:Int):InstD:={kind:=0,next:=zPw k i}
def rowV (V:Nat->Value) (K:Nat):List Value:=(List.range K).map V
def zQJ (k n:Nat):List InstD:=(List.range n).map (fun i:Nat=>zQQ k i)
def mks (k n:Nat):List Value:=zAG ((zQJ k n).map zAJ)
theorem zPi {w:World} {base base':Nat} {e e2:TypeId} {s s2:Nat} {v v2:Value} {n n2:Nat} {xs ys:List Value} (h:w.ownsRow base e s v n xs) (h2:w.ownsRow base' e2 s2 v2 n2 ys) (hne:e≠e2) {g:Nat} (hb:v.ownBlock=some g):v2.ownBlock≠some g:=by
 intro hb2;obtain⟨_,_,c1,e1⟩:=zEd h hb;obtain⟨_,_,c2,e2'⟩:=zEd h2 hb2;rw[e1]at e2';cases e2';exact hne rfl
def Mine (K:Nat) (V:Nat->Value) (b:Nat):Prop:=∃ j,j<K/\(V j).ownBlock=some b
theorem KeepBut.grown' {M:Nat->Prop} {B:Nat} {X W W':World} {row:Option Nat} (h:KeepBut M B X W) (hg:W.grownBy W' row) (hB:B<=W.heap.size) (hr:∀ g,row=some g->M g\/B<=g):KeepBut M B X W' :=
 h.trans ⟨hg.os,hg.tape,hg.output,hg.size,fun k h1 h2=>hg.block k (by omega) (fun e=>by rcases hr k e.symm with h|h;exact h2 h;omega)⟩
structure FSt (base:Nat) (w0:World) (lsv:Value) (K:Nat) (V:Nat->Value) (N:Nat->Nat) (X:Nat->List Value) (w:World):Prop where
 ls:w.ownsRow base 32 1 lsv K (rowV V K)
 fam:Fam 47 9 base w K V V N N X X
 below:KeepBut (Mine K V) w0.heap.size w0 w
 size0:base<=w0.heap.size
theorem FSt.size {base:Nat} {w0:World} {lsv:Value} {K:Nat} {V:Nat->Value} {N:Nat->Nat} {X:Nat->List Value} {w:World} (h:FSt base w0 lsv K V N X w):base<=w.heap.size:=Nat.le_trans h.size0 h.below.size
theorem FSt.put {base:Nat} {w0:World} {lsv:Value} {K:Nat} {V:Nat->Value} {N:Nat->Nat} {X:Nat->List Value} {w w':World} (h:FSt base w0 lsv K V N X w) {k g c:Nat} {X':List Value} (hk:k<K) (hv:V k=.slice (some ⟨g,0,none⟩) (N k) c) (hg:w.grownBy w' (some g)) (ho:w'.ownsRow base 47 9 (V k) (N k) X') :
  FSt base w0 lsv K V N (fun j=>if j=k then X' else X j) w':=by
 have hb:(V k).ownBlock=some g:=by rw[hv];rfl
 refine⟨zE0 h.ls hg (fun g' e=>by cases e;exact zPi (h.fam.v k hk) h.ls (by decide) hb),h.fam.put hk hb hg ho,?_,h.size0⟩
 exact h.below.grown' hg h.below.size (fun g' e=>by cases e;exact .inl ⟨k,hk,hb⟩)
structure GSt (base:Nat) (w0:World) (lsv gsv:Value) (K:Nat) (V U:Nat->Value) (N M:Nat->Nat) (Y:Nat->List Value) (gsl:List Value) (w:World):Prop where
 ls:w.ownsRow base 32 1 lsv K (rowV V K)
 gs:w.ownsRow base 32 1 gsv K gsl
 fam:Fam 47 9 base w K V U N M (fun j=>mks j (N j)) Y
 ne:∀ g,gsv.ownBlock=some g->lsv.ownBlock≠some g
 below:KeepBut (Mine K V) w0.heap.size w0 w
 size0:base<=w0.heap.size
 ub:∀ j,j<K->∀ g,(U j).ownBlock=some g->Mine K V g\/w0.heap.size<=g
 gb:∀ g,gsv.ownBlock=some g->w0.heap.size<=g
section
variable {base:Nat} {w0:World} {lsv gsv:Value} {K:Nat} {V U:Nat->Value} {N M:Nat->Nat} {Y:Nat->List Value} {gsl:List Value} {w w':World}
theorem GSt.size (h:GSt base w0 lsv gsv K V U N M Y gsl w):base<=w.heap.size:=Nat.le_trans h.size0 h.below.size
end

def zOQ (base:Nat) (lsv:Value) (K:Nat) (V:Nat->Value) (N:Nat->Nat) (w:World):Prop:=∃ X,w.ownsRow base 32 1 lsv K (rowV V K)/\Fam 47 9 base w K V V N N X X
def RelA (base:Nat) (lsv:Value) (K:Nat) (V:Nat->Value) (N:Nat->Nat) (B0:Nat) (u v:World):Prop:=KeepBut (Mine K V) B0 u v/\(zOQ base lsv K V N u->zOQ base lsv K V N v)
section
variable {base:Nat} {lsv:Value} {K:Nat} {V:Nat->Value} {N:Nat->Nat} {B0:Nat}
theorem RelA.refl (w:World):RelA base lsv K V N B0 w w:=⟨KeepBut.refl _ _ _,id⟩
theorem RelA.trans (u v w:World) (h1:RelA base lsv K V N B0 u v) (h2:RelA base lsv K V N B0 v w):RelA base lsv K V N B0 u w:=⟨h1.1.trans h2.1,fun h=>h2.2 (h1.2 h)⟩
theorem RelA.size {w W:World} (h:RelA base lsv K V N w.heap.size w W):w.heap.size<=W.heap.size:=h.1.size
end
def bagV (lsv:Value) (k:Nat):Value:=if k=8 then lsv else .slice none 0 0
def bagC (lsv:Value):Array Value:=#[.slice none 0 0,.slice none 0 0,.slice none 0 0,.slice none 0 0,.slice none 0 0,.slice none 0 0,.slice none 0 0,.slice none 0 0,lsv,.slice none 0 0,.slice none 0 0,.slice none 0 0,.slice none 0 0,.slice none 0 0,.slice none 0 0,.slice none 0 0,.slice none 0 0,.slice none 0 0,.slice none 0 0,.slice none 0 0,.slice none 0 0]
def Bag (W:World) (B:Nat) (lsv:Value):Prop:=W.heap[B]?=some (.cells (bagC lsv) 87 (0,0))
theorem Bag.lt {W:World} {B:Nat} {lsv:Value} (h:Bag W B lsv):B<W.heap.size:=(Array.getElem?_eq_some_iff.1 h).1
theorem Bag.cell {W:World} {B:Nat} {lsv:Value} (h:Bag W B lsv) {k:Nat} (hk:k<21):W.cell? ⟨B,k,none⟩=some (bagV lsv k):=by
 rw[cell_of_row W B k _ _ _ h];have:∀ k,k<21->(bagC lsv)[k]?=some (bagV lsv k):=by
  intro k hk
  match k,hk with
  | 0,_=>rfl
  | 1,_=>rfl
  | 2,_=>rfl
  | 3,_=>rfl
  | 4,_=>rfl
  | 5,_=>rfl
  | 6,_=>rfl
  | 7,_=>rfl
  | 8,_=>rfl
  | 9,_=>rfl
  | 10,_=>rfl
  | 11,_=>rfl
  | 12,_=>rfl
  | 13,_=>rfl
  | 14,_=>rfl
  | 15,_=>rfl
  | 16,_=>rfl
  | 17,_=>rfl
  | 18,_=>rfl
  | 19,_=>rfl
  | 20,_=>rfl
  | k+21,hk=>exact absurd hk (by omega)
 exact this k hk
theorem Bag.frozen {W:World} {B:Nat} {lsv:Value} (h:Bag W B lsv) (k:Nat):W.frozen? ⟨B,k,none⟩=false:=by
 simp[World.frozen?,show W.heap[B]?=_ from h]
theorem Bag.set {W:World} {B:Nat} {lsv:Value} (h:Bag W B lsv) (x:Value):Bag (W.setCell ⟨B,8,none⟩ x) B x:=by
 obtain⟨hlt,hh⟩:=Array.getElem?_eq_some_iff.1 h
 show (W.heap.modify B _)[B]?=_
 rw[Array.getElem?_eq_getElem (by rw[Array.size_modify];exact hlt),Array.getElem_modify_self,hh]
 rfl
theorem Bag.below {W W':World} {B:Nat} {lsv:Value} (h:Bag W B lsv) (hb:Below W.heap.size W W'):Bag W' B lsv:=(hb.block B h.lt).trans h
def zDS (l:List (Tree × Nat)):Int:=l.foldl (fun m x=>max m x.1.d.group) 0
abbrev GC (t:Tree) (b:Nat) (v:Nat):List Res:=[.blk b #[.int .i64 (zDS ((zBO t).take v))] 3]
theorem zL0 (t:Tree) (p:Option Addr) (c:Nat) (F:Nat->Prop) (w0:World) (hm:zAB t<=1000000000) (hF:∀ b,F b->b<w0.heap.size) (h:ForestR w0 F p c t.kids) :
  Calls Tryz.prog 17 #[zAV t.d (.slice p t.kids.length c)] w0 (Rt (.int .i64 (zDS (zBO t))) w0):=by
 have H:=Hold.start w0;refine callsIn_wide.1 (zBv (n:=9) Tryz.func17 rfl ?_);simp only[Tryz.ntmps17,List.size_toArray,List.length_cons,List.length_nil,Nat.reduceAdd,Nat.reduceSub,Array.replicate_succ,Array.replicate_zero,List.push_toArray,List.append_toArray,List.nil_append,List.cons_append];refine zBP (zBg ?_)
 go_wp2_with (first|((with_reducible refine kg 1 ?_);(first|refine kA 1 H ?_|refine kS 1 H ?_|refine kB 1 H ?_);clear H;intro b1 w H;try simp only[nr]at H)|((with_reducible refine kg 2 ?_);(first|refine kA 2 H ?_|refine kS 2 H ?_|refine kB 2 H ?_);clear H;intro b2 w H;try simp only[nr]at H)|(first|((with_reducible refine gT ?_);(first|((first|refine aS H ?_|refine aW H ?_|refine aO H ?_|refine aT H ?_);clear H;intro w H;try simp only[nr]at H)|(refine aN H ?_;clear H;intro w H;(try simp only[nr]at H);try simp only[zBS,nrl]at H)))|((with_reducible refine gL ?_);(first|refine aV H ?_|refine aL H ?_|refine aVn H ?_|refine aGb H ?_|refine aG H ?_|refine aD H ?_))|((with_reducible refine gX ?_);((first|refine bS H ?_|refine bB H ?_);clear H;intro b w H;try simp only[nr]at H))|((with_reducible refine gA ?_);(refine bA H ?_;clear H;intro b w H;try simp only[nr]at H))|((with_reducible refine gZ ?_);refine nb0 ?_)|((with_reducible refine gZ ?_);refine nb1 ?_)|((with_reducible refine gZ ?_);refine nbS ?_)|((with_reducible refine gZ ?_);refine nbK ?_)|((with_reducible refine gZ ?_);refine nbG ?_)|((with_reducible refine gZ ?_);refine nbR ?_)|((with_reducible refine gZ ?_);refine nbA ?_)|((with_reducible refine gZ ?_);refine fb3 ?_)|((with_reducible refine gES ?_);refine qS ?_)|((with_reducible refine gNS ?_);refine qN ?_)|((with_reducible refine gZ ?_);refine aZ ?_)|((with_reducible refine gI ?_);refine aI ?_)|((with_reducible refine gC ?_);refine aC ?_)|((with_reducible refine gF ?_);refine aF ?_)|((with_reducible refine gU ?_);refine aU ?_)|((with_reducible refine gE ?_);refine aE ?_)|((with_reducible refine gQ ?_);refine aQ ?_)))
 refine zBP (zBP (zBg ?_))
 go_wp2_with (first|(go_at_call 42;refine(zGH t.d (.slice p t.kids.length c) _).mono ?_;rintro e w ⟨⟨xb,rfl,hx1,hx2⟩,hb⟩;obtain⟨xb',e1,H2⟩:=H.gainB hb (v:=.pointer (some ⟨xb,0,none⟩)) ⟨xb,rfl,hx1,hx2⟩;cases e1;clear H hb hx1 hx2;have H:=H2;clear H2;simp only[ca]at H)|(first|((with_reducible refine gT ?_);(first|((first|refine aS H ?_|refine aW H ?_|refine aO H ?_|refine aT H ?_);clear H;intro w H;try simp only[nr]at H)|(refine aN H ?_;clear H;intro w H;(try simp only[nr]at H);try simp only[zBS,nrl]at H)))|((with_reducible refine gL ?_);(first|refine aV H ?_|refine aL H ?_|refine aVn H ?_|refine aGb H ?_|refine aG H ?_|refine aD H ?_))|((with_reducible refine gX ?_);((first|refine bS H ?_|refine bB H ?_);clear H;intro b w H;try simp only[nr]at H))|((with_reducible refine gA ?_);(refine bA H ?_;clear H;intro b w H;try simp only[nr]at H))|((with_reducible refine gZ ?_);refine nb0 ?_)|((with_reducible refine gZ ?_);refine nb1 ?_)|((with_reducible refine gZ ?_);refine nbS ?_)|((with_reducible refine gZ ?_);refine nbK ?_)|((with_reducible refine gZ ?_);refine nbG ?_)|((with_reducible refine gZ ?_);refine nbR ?_)|((with_reducible refine gZ ?_);refine nbA ?_)|((with_reducible refine gZ ?_);refine fb3 ?_)|((with_reducible refine gES ?_);refine qS ?_)|((with_reducible refine gNS ?_);refine qN ?_)|((with_reducible refine gZ ?_);refine aZ ?_)|((with_reducible refine gI ?_);refine aI ?_)|((with_reducible refine gC ?_);refine aC ?_)|((with_reducible refine gF ?_);refine aF ?_)|((with_reducible refine gU ?_);refine aU ?_)|((with_reducible refine gE ?_);refine aE ?_)|((with_reducible refine gQ ?_);refine aQ ?_)))
 have hB:w0.heap.size<=w.heap.size:=H.keep.size;have hI:Hold w0 w (.blk xb (zAR t.d (.slice p t.kids.length c)) 28::GC t b2 0):=H.pick [2,1] _ (by decide) rfl
 clear H
 refine zDp (zDr (σ:=Nat × List Res) (α:=TV × Nat) (n:=8) (gf:=98) (lb:=#[.pointer (some ⟨xb,0,none⟩)]) rfl (enters_of Tryz.func98 (by kernel_rfl) rfl) (encs:=fun x=>#[zAV x.1.1.d (.slice x.1.2.1 x.1.1.kids.length x.1.2.2),.int .i64 x.2]) (fun _=>rfl)
  (fun W=>Hold w0 W (.blk xb (zAR t.d (.slice p t.kids.length c)) 28::GC t b2 0)) (fun j W=>j=none/\Hold w0 W (GC t b2 (zAB t))) (fun _ _=>False)
  (fun s x W=>((zBO t)[s.1]?=some (x.1.1,x.2)/\s.2.all zA5=true)/\Hold w0 W (GC t b2 s.1++s.2)) (fun s x j W=>(j=none/\s.2.all zA5=true)/\Hold w0 W (GC t b2 (s.1+1)++s.2)) (fun _ _ _ _=>False)
  (fun s x a1 W=>∃ b3,a1={tmps:=#[zAV t.d (.slice p t.kids.length c),.pointer (some ⟨b1,0,none⟩),.pointer (some ⟨b2,0,none⟩),.pointer (some ⟨b3,0,none⟩),zAV t.d (.slice p t.kids.length c),.func (.func 98) #[] #[.pointer (some ⟨xb,0,none⟩)],zAV x.1.1.d (.slice x.1.2.1 x.1.1.kids.length x.1.2.2),.int .i64 x.2,undef,undef,undef,undef,undef],defers:=[]}/\((zBO t)[s.1]?=some (x.1.1,x.2)/\s.2.all zA5=true)/\Hold w0 W (.blk b3 (zAR x.1.1.d (.slice x.1.2.1 x.1.1.kids.length x.1.2.2)) 28::(GC t b2 s.1++s.2)))
  (fun W W' row hs hg hr=>hs.stayC (by rfl) hB hg hr) (fun j W W' row hs hg hr=>⟨hs.1,hs.2.stayC (by rfl) hB hg hr⟩) (fun s x j W W' row hs hg hr=>⟨hs.1,hs.2.stayC (by simp[zA5,hs.1.2]) hB hg hr⟩) (fun s x a1 W W' row ⟨b3,e,h1,h2⟩ hg hr=>⟨b3,e,h1,h2.stayC (by simp[zA5,h1.2]) hB hg hr⟩) ?iter hI ?assign ?body ?done ?pan)
 case iter =>
  intro l B K hBs hKs hBK hY W hI hBW;refine(zF8 t p c F w0 hm hF h xb (GC t b2) (fun _ _=>noC) (fun _=>rfl) l B w.heap.size hBs (fun v x d E W1 hv hk hE hW hB1=>?_) W hI hBW).mono (fun e W' hh=>?_)
  ·refine(hY (v,E) (x,d) W1 ⟨⟨hv,hE⟩,hW⟩ hB1).mono (fun e W' h=>?_)
   rcases h with ⟨j,rfl,⟨⟨rfl,_⟩,hq⟩,hb⟩|⟨ch,_,h,_⟩
   ·exact⟨_,rfl,none,rfl,hq,hb⟩
   ·exact h.elim
  ·obtain⟨v,j,rfl,hb,hh⟩:=hh
   cases j with
   | none=>exact .inl ⟨v,none,rfl,⟨rfl,hh⟩,hb⟩
   | some k=>obtain⟨_,_,hh⟩:=hh;exact(zLc hh).elim
 case assign =>
  rintro l s x W hJ;simp only[List.zip_toArray,List.foldl_toArray,List.zip_cons_cons,List.zip_nil_right,List.zip_nil_left,List.foldl_cons,List.foldl_nil,List.setIfInBounds_toArray,List.set_cons_succ,List.set_cons_zero];obtain⟨v,E⟩:=s;obtain⟨⟨h1,h2⟩,H⟩:=hJ;simp only[]at h1 h2 H;have hKN:=Lib.hid fun V=>KeepsNC.of_plain (W':=V) w.heap.size H (by simpa [zA5] using h2)
  have H1:=H.framed;obtain⟨rS,hrS⟩:∃ rS,zCl W (GC t b2 v++E)=rS:=⟨_,rfl⟩;obtain⟨rF,hrF⟩:∃ rF,zCb W (GC t b2 v++E)=rF:=⟨_,rfl⟩;rw[hrS]at H1 hKN;rw[hrF]at H1;clear hrS hrF H;have H:=H1.perms (show List.Perm _ (.kn rF rS::(GC t b2 v++E)) from List.perm_append_comm (l₁:=GC t b2 v++E) (l₂:=[_]))
  clear H1;refine wpIn_region_lit (zAa (by rintro⟨_,_,h⟩;exact h) _ _ _ rfl ?_)
  go_wp2_with (first|((with_reducible refine kgA 3 ?_);refine kA 3 H ?_;clear H;intro b3 w3 H;replace H:=H.perms List.perm_append_comm;simp only[ca]at H)|((with_reducible refine kg 3 ?_);(first|refine kA 3 H ?_|refine kS 3 H ?_|refine kB 3 H ?_);clear H;intro b3 w H;try simp only[nr]at H)|(first|((with_reducible refine gT ?_);(first|((first|refine aS H ?_|refine aW H ?_|refine aO H ?_|refine aT H ?_);clear H;intro w H;try simp only[nr]at H)|(refine aN H ?_;clear H;intro w H;(try simp only[nr]at H);try simp only[zBS,nrl]at H)))|((with_reducible refine gL ?_);(first|refine aV H ?_|refine aL H ?_|refine aVn H ?_|refine aGb H ?_|refine aG H ?_|refine aD H ?_))|((with_reducible refine gX ?_);((first|refine bS H ?_|refine bB H ?_);clear H;intro b w H;try simp only[nr]at H))|((with_reducible refine gA ?_);(refine bA H ?_;clear H;intro b w H;try simp only[nr]at H))|((with_reducible refine gZ ?_);refine nb0 ?_)|((with_reducible refine gZ ?_);refine nb1 ?_)|((with_reducible refine gZ ?_);refine nbS ?_)|((with_reducible refine gZ ?_);refine nbK ?_)|((with_reducible refine gZ ?_);refine nbG ?_)|((with_reducible refine gZ ?_);refine nbR ?_)|((with_reducible refine gZ ?_);refine nbA ?_)|((with_reducible refine gZ ?_);refine fb3 ?_)|((with_reducible refine gES ?_);refine qS ?_)|((with_reducible refine gNS ?_);refine qN ?_)|((with_reducible refine gZ ?_);refine aZ ?_)|((with_reducible refine gI ?_);refine aI ?_)|((with_reducible refine gC ?_);refine aC ?_)|((with_reducible refine gF ?_);refine aF ?_)|((with_reducible refine gU ?_);refine aU ?_)|((with_reducible refine gE ?_);refine aE ?_)|((with_reducible refine gQ ?_);refine aQ ?_)))
  refine⟨hKN.out _ (H.kn (i:=1) i_1),b3,rfl,⟨h1,h2⟩,?_⟩
  exact HoldG.left (R:=[_]) (H.perms (List.Perm.cons _ (List.perm_append_comm (l₁:=[_]) (l₂:=GC t b2 v++E))))
 case body =>
  rintro l ⟨v,E⟩ x a1 W ⟨b3,rfl,⟨h1,h2⟩,H⟩;simp only[]at h1 h2 H;have e1:zDS ((zBO t).take (v+1))=max (zDS ((zBO t).take v)) x.1.1.d.group:=by
   rw[zBb h1];simp[zDS,List.foldl_append]
  have hKN:=Lib.hid fun V=>KeepsNC.of_plain (W':=V) w.heap.size H (by simpa [zA5] using h2)
  have H1:=H.framed;obtain⟨rS,hrS⟩:∃ rS,zCl W (.blk b3 (zAR x.1.1.d (.slice x.1.2.1 x.1.1.kids.length x.1.2.2)) 28::(GC t b2 v++E))=rS:=⟨_,rfl⟩;obtain⟨rF,hrF⟩:∃ rF,zCb W (.blk b3 (zAR x.1.1.d (.slice x.1.2.1 x.1.1.kids.length x.1.2.2)) 28::(GC t b2 v++E))=rF:=⟨_,rfl⟩;rw[hrS]at H1 hKN;rw[hrF]at H1;clear hrS hrF H;obtain⟨m,hm0⟩:∃ m,zDS ((zBO t).take v)=m:=⟨_,rfl⟩;rw[hm0]at e1;have H:Hold w0 W (.kn rF rS::.blk b3 (zAR x.1.1.d (.slice x.1.2.1 x.1.1.kids.length x.1.2.2)) 28::.blk b2 #[.int .i64 m] 3::E):=by
   rw[← hm0];exact H1.perms (List.perm_append_comm (l₁:=.blk b3 (zAR x.1.1.d (.slice x.1.2.1 x.1.1.kids.length x.1.2.2)) 28::(GC t b2 v++E)) (l₂:=[_]))
  clear H1;have HE:=Lib.hid e1;clear e1;refine wpIn_block (wpIn_region_lit (zAa (by rintro⟨_,_,h⟩;exact h) _ _ _ rfl ?_))
  go_wp2_with (first|(first|((with_reducible refine gT ?_);(first|((first|refine aS H ?_|refine aW H ?_|refine aO H ?_|refine aT H ?_);clear H;intro w H;try simp only[nr]at H)|(refine aN H ?_;clear H;intro w H;(try simp only[nr]at H);try simp only[zBS,nrl]at H)))|((with_reducible refine gL ?_);(first|refine aV H ?_|refine aL H ?_|refine aVn H ?_|refine aGb H ?_|refine aG H ?_|refine aD H ?_))|((with_reducible refine gX ?_);((first|refine bS H ?_|refine bB H ?_);clear H;intro b w H;try simp only[nr]at H))|((with_reducible refine gA ?_);(refine bA H ?_;clear H;intro b w H;try simp only[nr]at H))|((with_reducible refine gZ ?_);refine nb0 ?_)|((with_reducible refine gZ ?_);refine nb1 ?_)|((with_reducible refine gZ ?_);refine nbS ?_)|((with_reducible refine gZ ?_);refine nbK ?_)|((with_reducible refine gZ ?_);refine nbG ?_)|((with_reducible refine gZ ?_);refine nbR ?_)|((with_reducible refine gZ ?_);refine nbA ?_)|((with_reducible refine gZ ?_);refine fb3 ?_)|((with_reducible refine gES ?_);refine qS ?_)|((with_reducible refine gNS ?_);refine qN ?_)|((with_reducible refine gZ ?_);refine aZ ?_)|((with_reducible refine gI ?_);refine aI ?_)|((with_reducible refine gC ?_);refine aC ?_)|((with_reducible refine gF ?_);refine aF ?_)|((with_reducible refine gU ?_);refine aU ?_)|((with_reducible refine gE ?_);refine aE ?_)|((with_reducible refine gQ ?_);refine aQ ?_)))
  all_goals
   rw[show (if m<x.1.1.d.group then x.1.1.d.group else m)=zDS ((zBO t).take (v+1)) from by rw[HE.out];split<;>omega]at H
   refine⟨hKN.out _ (H.kn (i:=0) .zero),rfl,?_⟩
   refine HoldG.left (R:=[.kn rF rS,.blk b3 (zAR x.1.1.d (.slice x.1.2.1 x.1.1.kids.length x.1.2.2)) 28]) (H.perms ?_);exact List.perm_append_comm (l₁:=[_,_]) (l₂:=GC t b2 (v+1)++E)
 case done =>
  rintro D j W hD ⟨rfl,H⟩ hK;have hKN:=Lib.hid fun V=>KeepsNC.of_plain (W':=V) w.heap.size H rfl
  have H1:=H.framed;obtain⟨rS,hrS⟩:∃ rS,zCl W (GC t b2 (zAB t))=rS:=⟨_,rfl⟩;obtain⟨rF,hrF⟩:∃ rF,zCb W (GC t b2 (zAB t))=rF:=⟨_,rfl⟩;rw[hrS]at H1 hKN;rw[hrF]at H1;clear hrS hrF H hI;have H:Hold w0 W [.blk b2 #[.int .i64 (zDS (zBO t))] 3,.kn rF rS]:=by unfold GC at H1;rw[show (zBO t).take (zAB t)=zBO t from by rw[← zD8];exact List.take_length ..]at H1;exact H1
  clear H1;have hD2:w0.heap.size<=D:=Nat.le_trans hB hD;refine zBP (zBg ?_)
  go_wp2_with (first|(first|((with_reducible refine gT ?_);(first|((first|refine aS H ?_|refine aW H ?_|refine aO H ?_|refine aT H ?_);clear H;intro w H;try simp only[nr]at H)|(refine aN H ?_;clear H;intro w H;(try simp only[nr]at H);try simp only[zBS,nrl]at H)))|((with_reducible refine gL ?_);(first|refine aV H ?_|refine aL H ?_|refine aVn H ?_|refine aGb H ?_|refine aG H ?_|refine aD H ?_))|((with_reducible refine gX ?_);((first|refine bS H ?_|refine bB H ?_);clear H;intro b w H;try simp only[nr]at H))|((with_reducible refine gA ?_);(refine bA H ?_;clear H;intro b w H;try simp only[nr]at H))|((with_reducible refine gZ ?_);refine nb0 ?_)|((with_reducible refine gZ ?_);refine nb1 ?_)|((with_reducible refine gZ ?_);refine nbS ?_)|((with_reducible refine gZ ?_);refine nbK ?_)|((with_reducible refine gZ ?_);refine nbG ?_)|((with_reducible refine gZ ?_);refine nbR ?_)|((with_reducible refine gZ ?_);refine nbA ?_)|((with_reducible refine gZ ?_);refine fb3 ?_)|((with_reducible refine gES ?_);refine qS ?_)|((with_reducible refine gNS ?_);refine qN ?_)|((with_reducible refine gZ ?_);refine aZ ?_)|((with_reducible refine gI ?_);refine aI ?_)|((with_reducible refine gC ?_);refine aC ?_)|((with_reducible refine gF ?_);refine aF ?_)|((with_reducible refine gU ?_);refine aU ?_)|((with_reducible refine gE ?_);refine aE ?_)|((with_reducible refine gQ ?_);refine aQ ?_)))
  refine zBg ?_
  go_wp2_with fail
  have hK3:=(hKN.out _ (H.kn (i:=1) i_1)).same _ _ hD hK rfl;refine⟨by simp,.inl ⟨D,_,rfl,run_takeDeferred hK3,?_⟩⟩
  have H3:Hold w0 _ [.blk b2 #[.int .i64 (zDS (zBO t))] 3]:=H.pick [0] _ (by decide) rfl
  have H5:=Stay.putObj (Stay.plain rfl (Nat.le_refl _)) (.deferred none) H3 hD2 hK3 rfl;refine⟨_,zEF Tryz.results17 rfl zAC ((H5.cell (i:=0) .zero 0).trans rfl),rfl,H5.below⟩
 case pan=>exact fun D ch W _ h _=>h.elim
end
section
open Go.RowKit
def zHq (k:Int):Prop:=k=1\/k=2\/k=3\/8<=k/\k<=13
mutual
def NF:Tree->Prop
 | .mk d ks =>
  (zHq d.kind/\ks=[]) \/
  ((∃ m lz,(m = -1\/m=1)/\d={kind:=6,hi:=m,lazy:=lz})/\(∃ k,ks=[k]/\k.d.kind≠1/\k.d.kind≠2)/\NFs ks) \/
  (d.kind=7/\(∃ k,ks=[k]/\k.d.kind≠2)/\NFs ks) \/
  (d={kind:=4}/\2<=ks.length/\(∀ k ∈ ks,k.d.kind≠4/\k.d.kind≠1/\k.d.kind≠2)/\NFs ks) \/
  (d={kind:=5}/\2<=ks.length/\(∀ k ∈ ks,k.d.kind≠5/\k.d.kind≠2)/\NFs ks)
def NFs:List Tree->Prop
 | []=>True
 | t::r=>NF t/\NFs r
end
theorem zEY:∀ {l:List Tree},NFs l↔∀ t ∈ l,NF t
 | []=>by simp[NFs]
 | t::r=>by simp[NFs,zEY (l:=r)]
theorem zEQ {d:NodeD} (h:zHq d.kind):NF (.mk d []):=by unfold NF;exact .inl ⟨h,rfl⟩
theorem zHp {t:Tree} (h:NF t):NFs t.kids:=by
 obtain⟨d,ks⟩:=t;unfold NF at h;rcases h with ⟨_,rfl⟩|⟨_,_,h⟩|⟨_,_,h⟩|⟨_,_,_,h⟩|⟨_,_,_,h⟩
 ·simp[Tree.kids,NFs]
 all_goals exact h
theorem zHm {t:Tree} (h:NF t) (hk:t.d.kind=4):t.d={kind:=4}/\2<=t.kids.length/\∀ k ∈ t.kids,k.d.kind≠4/\k.d.kind≠1/\k.d.kind≠2:=by
 obtain⟨d,ks⟩:=t;simp only[Tree.d]at hk;unfold NF at h;rcases h with ⟨h,rfl⟩|⟨⟨m,lz,_,rfl⟩,_,h⟩|⟨h,_,_⟩|⟨h1,h2,h3,_⟩|⟨rfl,_,_,h⟩
 ·unfold zHq at h;omega
 ·cases hk
 ·omega
 ·exact⟨h1,h2,h3⟩
 ·cases hk
theorem zO9 {t:Tree} (h:NF t) (hk:t.d.kind=5):t.d={kind:=5}/\2<=t.kids.length/\∀ k ∈ t.kids,k.d.kind≠5/\k.d.kind≠2:=by
 obtain⟨d,ks⟩:=t;simp only[Tree.d]at hk;unfold NF at h;rcases h with ⟨h,rfl⟩|⟨⟨m,lz,_,rfl⟩,_,h⟩|⟨h,_,_⟩|⟨rfl,h2,h3,_⟩|⟨h1,h2,h3,_⟩
 ·unfold zHq at h;omega
 ·cases hk
 ·omega
 ·cases hk
 ·exact⟨h1,h2,h3⟩
theorem zNl {l:List Tree} (h:∀ t ∈ l,NF t) (h2:l.any (fun t=>t.d.kind == 2)=false):∀ t ∈ zBK l 4 1,NF t/\t.d.kind≠4/\t.d.kind≠1/\t.d.kind≠2:=by
 intro t ht;obtain⟨u,hu,hx⟩:=List.mem_flatMap.1 ht;have hu2:u.d.kind≠2:=by
  rw[List.any_eq_false]at h2
  simpa using h2 u hu
 unfold zDz at hx;split at hx
 ·rename_i h4;exact⟨zEY.1 (zHp (h u hu)) t hx,(zHm (h u hu) h4).2.2 t hx⟩
 split at hx
 ·cases hx
 ·rename_i h4 h1;rw[List.mem_singleton]at hx;subst hx;exact⟨h t hu,h4,h1,hu2⟩
theorem zNT {l:List Tree} (h:∀ t ∈ l,NF t):∀ t ∈ zBK l 5 2,NF t/\t.d.kind≠5/\t.d.kind≠2:=by
 intro t ht;obtain⟨u,hu,hx⟩:=List.mem_flatMap.1 ht;unfold zDz at hx;split at hx
 ·rename_i h4;exact⟨zEY.1 (zHp (h u hu)) t hx,(zO9 (h u hu) h4).2.2 t hx⟩
 split at hx
 ·cases hx
 ·rename_i h4 h1;rw[List.mem_singleton]at hx;subst hx;exact⟨h t hu,h4,h1⟩
theorem zM2 {l:List Tree} (h:∀ t ∈ l,NF t):NF (catT l):=by
 unfold catT;split
 ·exact zEQ (.inr (.inl rfl))
 ·rename_i h2;have hf:=zNl h (by simpa using h2)
  unfold rowN;split
  ·exact zEQ (.inl rfl)
  ·rename_i t e;exact(hf t (by rw[e];simp)).1
  ·rename_i h0 h1;unfold NF;refine .inr (.inr (.inr (.inl ⟨rfl,?_,fun k hk=>(hf k hk).2,zEY.2 fun k hk=>(hf k hk).1⟩)))
   rcases hl:zBK l 4 1 with _|⟨a,_|⟨b,r⟩⟩
   ·exact absurd hl h0
   ·exact absurd hl (h1 a)
   ·simp
theorem zPk {l:List Tree} (h:∀ t ∈ l,NF t):NF (rowN 5 (zBK l 5 2) (zBs 2)):=by
 have hf:=zNT h;unfold rowN;split
 ·exact zEQ (.inr (.inl rfl))
 ·rename_i t e;exact(hf t (by rw[e];simp)).1
 ·rename_i h0 h1;unfold NF;refine .inr (.inr (.inr (.inr ⟨rfl,?_,fun k hk=>(hf k hk).2,zEY.2 fun k hk=>(hf k hk).1⟩)))
  rcases hl:zBK l 5 2 with _|⟨a,_|⟨b,r⟩⟩
  ·exact absurd hl h0
  ·exact absurd hl (h1 a)
  ·simp
theorem zNi {k:Tree} {r:List Tree} (hk:NF k) (h1:k.d.kind≠1) (h2:k.d.kind≠2) (hr:∀ t ∈ r,t.d.kind=6):(catT (k::r)).d.kind≠1/\(catT (k::r)).d.kind≠2:=by
 have ha:(k::r).any (fun t=>t.d.kind == 2)=false:=by
  rw[List.any_eq_false];intro t ht;rcases List.mem_cons.1 ht with rfl|ht
  ·simpa using h2
  ·rw[hr t ht];decide
 unfold catT;rw[ha];simp only[Bool.false_eq_true,if_false];unfold rowN;split
 ·rename_i e
  exfalso
  simp only[zBK,List.flatMap_cons,List.append_eq_nil_iff]at e;have e:=e.1;unfold zDz at e;split at e
  ·rename_i h4;have:=(zHm hk h4).2.1;rw[e]at this;simp at this
  ·first|cases e|(rw[if_neg h1]at e;cases e)
 ·rename_i t e;have hm:t ∈ zBK (k::r) 4 1:=by rw[e];simp
  obtain⟨u,hu,hx⟩:=List.mem_flatMap.1 hm;unfold zDz at hx;rcases List.mem_cons.1 hu with rfl|hu
  ·split at hx
   ·rename_i h4;have:=(zHm hk h4).2.2 t hx;exact⟨this.2.1,this.2.2⟩
   ·first|rw[List.mem_singleton]at hx|rw[if_neg h1,List.mem_singleton]at hx
    subst hx;exact⟨h1,h2⟩
  ·have h6:=hr u hu;rw[if_neg (by omega),if_neg (by omega),List.mem_singleton]at hx
   subst hx;rw[h6];decide
 ·exact⟨by show (4:Int)≠1;decide,by show (4:Int)≠2;decide⟩
theorem zFj {n:NodeD} {k:Tree} {m:Int} (hm:m = -1\/m=1) (hk:NF k) (h1:k.d.kind≠1) (h2:k.d.kind≠2):NF (zC9 n k m):=by
 unfold zC9 NF;exact .inr (.inl ⟨⟨m,n.lazy,hm,rfl⟩,⟨k,rfl,h1,h2⟩,by simp only[NFs];exact⟨hk,trivial⟩⟩)
theorem zNL (n:NodeD) (k:Tree):∀ m,∀ t ∈ zCi n k m,t.d.kind=6
 | 0,t,h=>by simp[zCi]at h
 | m+1,t,h=>by
  simp only[zCi,List.mem_singleton]at h;subst h;rfl
theorem zMH {n:NodeD} {k:Tree} (hk:NF k) (h1:k.d.kind≠1) (h2:k.d.kind≠2):∀ m,∀ t ∈ zCi n k m,NF t
 | 0,t,h=>by simp[zCi]at h
 | m+1,t,h=>by
  simp only[zCi,List.mem_singleton]at h;subst h;have hc:=zNi hk h1 h2 (zNL n k m);refine zFj (.inr rfl) (zM2 fun t ht=>?_) hc.1 hc.2
  rcases List.mem_cons.1 ht with rfl|ht
  ·exact hk
  ·exact zMH hk h1 h2 m t ht
theorem zM7 {d:NodeD} {k s:Tree} (hk:NF k) (h:zC7 d k=some s):NF s:=by
 unfold zC7 at h;split at h
 ·cases h;exact zEQ (.inl rfl)
 rename_i h1;split at h
 ·cases h;exact zEQ (.inr (.inl rfl))
 rename_i h2;split at h
 ·cases h
 ·cases h
  have h1':k.d.kind≠1:=fun e=>h1 (.inr (.inl e))
  refine zM2 fun t ht=>?_
  rcases List.mem_append.1 ht with ht|ht
  ·rw[List.eq_of_mem_replicate ht];exact hk
  ·split at ht
   ·rw[List.mem_singleton]at ht;subst ht;exact zFj (.inl rfl) hk h1' h2
   ·exact zMH hk h1' h2 _ t ht
theorem zJU {d:NodeD} {ks:List Tree} (h:zAk (.mk d ks)=true) (h4:d.kind≠4) (h5:d.kind≠5) (h6:d.kind≠6) (h7:d.kind≠7):zHq d.kind/\ks=[]:=by
 simp only[zAk,zAu,Bool.and_eq_true]at h;have h1:=h.1.1;unfold zBM at h1;unfold zHq
 by_cases h3:d.kind=3
 ·rw[if_pos h3]at h1;simp only[Bool.and_eq_true,beq_iff_eq]at h1;exact⟨by omega,List.length_eq_zero_iff.1 (by omega)⟩
 ·rw[if_neg h3,if_neg (by omega),if_neg h6,if_neg h7]at h1
  simp only[Bool.and_eq_true,beq_iff_eq,decide_eq_true_eq]at h1;exact⟨by omega,List.length_eq_zero_iff.1 (by omega)⟩
mutual
theorem zGU:∀ {t s:Tree},zAk t=true->zAn t=some s->NF s
 | .mk d ks,s,h,e=>by
  have h0:=h;simp only[zAk,Bool.and_eq_true]at h;simp only[zAn]at e;split at e
  ·cases e
  ·rename_i l hl;have hkl:=zG0 h.2 hl;have hlen:=zDu hl;have e:=zId e;unfold zKO at e;split at e
   ·rename_i h7
    cases l with
    | nil=>cases e
    | cons k r =>
     simp only at e;split at e
     ·cases e;exact zEQ (.inr (.inl rfl))
     ·rename_i hk2
      cases e
      have hr:r=[]:=by
       have h1:=h.1;simp only[zAu,Bool.and_eq_true]at h1;have h1:=h1.1;unfold zBM at h1;rw[if_neg (by omega),if_neg (by omega),if_neg (by omega),if_pos h7]at h1
       simp only[Bool.and_eq_true,beq_iff_eq]at h1;rw[List.length_cons]at hlen;exact List.length_eq_zero_iff.1 (by omega)
      subst hr;unfold NF;exact .inr (.inr (.inl ⟨h7,⟨k,rfl,hk2⟩,hkl⟩))
   rename_i h7;split at e
   ·cases e;exact zM2 (zEY.1 hkl)
   rename_i h4;split at e
   ·cases e;exact zPk (zEY.1 hkl)
   rename_i h5;split at e
   ·cases l with
    | nil=>cases e
    | cons k r =>
     simp only[NFs]at hkl;exact zM7 hkl.1 e
   ·rename_i h6
    cases e
    have:=zJU h0 h4 h5 h6 h7;rw[this.2];exact zEQ this.1
theorem zG0:∀ {ts l:List Tree},zAU ts=true->zAc ts=some l->NFs l
 | [],l,_,e=>by simp[zAc]at e;subst e;simp[NFs]
 | t::r,l,h,e=>by
  simp only[zAU,Bool.and_eq_true]at h;simp only[zAc]at e;split at e
  ·cases e
  ·rename_i x hx;split at e
   ·cases e
   ·rename_i l' hl'
    cases e
    simp only[NFs];exact⟨zGU h.1 hx,zG0 h.2 hl'⟩
end
theorem zGa {l:List Tree} {i o:Int} (h:∀ t ∈ l,t.d.kind≠i/\t.d.kind≠o):zBK l i o=l:=by
 unfold zBK
 induction l with
 | nil=>rfl
 | cons t r ih =>
  have h1:=h t (List.mem_cons_self ..);rw[List.flatMap_cons,ih (fun t ht=>h t (List.mem_cons_of_mem _ ht))]
  unfold zDz;rw[if_neg h1.1,if_neg h1.2];rfl
theorem zHa {k:Int} {l:List Tree} {o:Tree} (h:2<=l.length):rowN k l o=.mk {kind:=k} l:=by
 rcases l with _|⟨a,_|⟨b,r⟩⟩
 ·simp at h
 ·simp at h
 ·rfl
theorem zOS {l:List Tree} (h:∀ t ∈ l,t.d.kind≠2):l.any (fun t=>t.d.kind == 2)=false:=by
 rw[List.any_eq_false];intro t ht
 simpa using h t ht
theorem zIu {k:Tree} (hk:NF k) (h1:k.d.kind≠1) (h2:k.d.kind≠2):catT [k]=k:=by
 unfold catT;rw[zOS (by intro t ht;rw[List.mem_singleton]at ht;subst ht;exact h2)]
 simp only[Bool.false_eq_true,if_false]
 by_cases h4:k.d.kind=4
 ·have hf:zBK [k] 4 1=k.kids:=by simp[zBK,zDz,h4]
  obtain⟨e1,e2,_⟩:=zHm hk h4;rw[hf,zHa e2,← e1,Tree.eta]
 ·rw[zGa (by intro t ht;rw[List.mem_singleton]at ht;subst ht;exact⟨h4,h1⟩)]
  rfl
mutual
theorem zLY:∀ {s:Tree},NF s->zAB s<=2000->zAn s=some s
 | .mk d ks,h,hs=>by
  have hks:NFs ks:=zHp h;have hz:zAF ks<=2000:=by simp only[zAB]at hs;omega
  have ih:=zKB hks hz;have hcap:∀ o,o=some (Tree.mk d ks)->capT o=some (.mk d ks):=by
   rintro _ rfl;unfold capT;simp only;rw[if_pos hs]
  simp only[zAn,ih];refine hcap _ ?_
  unfold NF at h;unfold zKO;rcases h with ⟨h,rfl⟩|⟨⟨m,lz,hm,rfl⟩,⟨k,rfl,h1,h2⟩,hk⟩|⟨h7,⟨k,rfl,h2⟩,hk⟩|⟨rfl,h2,h3,hk⟩|⟨rfl,h2,h3,hk⟩
  ·unfold zHq at h;rw[if_neg (by omega),if_neg (by omega),if_neg (by omega),if_neg (by omega)]
  ·simp only[NFs]at hk;have hk1:zAB k<=2000:=by rw[zAx]at hz;exact hz
   simp only[Int.reduceEq,if_false,if_true];unfold zC7;rw[if_neg (by simp only;omega),if_neg h2]
   rcases hm with rfl|rfl
   ·rw[if_neg (by show ¬ (4000<(zAB k:Int) * max (max 0 (-1)) 1);rw[show max (max (0:Int) (-1)) 1=1 by decide];omega),if_pos (show (-1:Int)<0 by decide)]
    simp only[Int.toNat_zero,List.replicate_zero,List.nil_append];have ha:NF (zC9 {kind:=6,hi := -1,lazy:=lz} k (-1)):=zFj (.inl rfl) hk.1 h1 h2;rw[zIu ha (by show (6:Int)≠1;decide) (by show (6:Int)≠2;decide)]
    rfl
   ·rw[if_neg (by show ¬ (4000<(zAB k:Int) * max (max 0 1) 1);rw[show max (max (0:Int) 1) 1=1 by decide];omega),if_neg (show ¬ (1:Int)<0 by decide)]
    have e1:((1:Int) - 0).toNat=1:=rfl;simp only[e1,Int.toNat_zero,List.replicate_zero,List.nil_append,zCi];rw[zIu hk.1 h1 h2];have ha:NF (zC9 {kind:=6,hi:=1,lazy:=lz} k 1):=zFj (.inr rfl) hk.1 h1 h2;rw[zIu ha (by show (6:Int)≠1;decide) (by show (6:Int)≠2;decide)]
    rfl
  ·rw[if_pos h7];simp only;rw[if_neg h2]
  ·simp only[Int.reduceEq,if_false,if_true];unfold catT;rw[zOS fun t ht=>(h3 t ht).2.2]
   simp only[Bool.false_eq_true,if_false];rw[zGa fun t ht=>⟨(h3 t ht).1,(h3 t ht).2.1⟩,zHa h2]
  ·simp only[Int.reduceEq,if_false,if_true];rw[zGa fun t ht=>h3 t ht,zHa h2]
theorem zKB:∀ {l:List Tree},NFs l->zAF l<=2000->zAc l=some l
 | [],_,_=>rfl
 | t::r,h,hs=>by
  simp only[NFs]at h;simp only[zAF]at hs;simp only[zAc,zLY h.1 (by omega),zKB h.2 (by omega)]
end
theorem zHx {t s:Tree} (h:zBB t=.ok s):zBB s=.ok s:=by
 have hk:=zD7 h;have hn:NF s:=by
  unfold zBB at h;split at h
  ·rename_i h0;split at h
   ·cases h
   ·rename_i u hu
    cases h
    exact zGU h0.1 hu
  ·cases h
 unfold zBB;rw[if_pos hk,zLY hn hk.2]
theorem zKa {t s:Tree} (h:zBB t=.ok s):zCh s=zCh t:=by
 unfold zCh;rw[zHx h,h]
end
end Go.Proofs.YtalggmbdpmdcbaaGreat
