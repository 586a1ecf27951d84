/-
  Laws of walks, and walks.
-/
import Derived.Test.YtklcgfkdemifcaaDoorSr8
import Derived.RangeFuncLeaves
import Derived.Test.YtklcgfkdemifcaaDoorSr3
import Derived.Test.YtklcgfkdemifcaaDoorSr2
set_option linter.unusedVariables false
set_option linter.unusedSimpArgs false
set_option maxRecDepth 100000
set_option maxHeartbeats 16000000
namespace Go.Proofs.YtklcgfkdemifcaaDoor
section
open Go.RowKit
def wpR (P:Program) (c:Code) (Q:Exit→Act→World→Prop) (a:Act) (w:World):Prop :=
 ∀ (b:Frame) (k:List Item) (cs:List Frame),b.roundOf=none→(∃ fn,P.funcs[b.fn]?=some fn) →
  ∃ e a' w',Q e a' w'∧ArrivesIn (Machine.fenced P Fence.wide) P (lone (b.atR a (.code c::k)) cs w) b k cs e a' w'
section
variable {n:Nat} {P:Program} {Q:Exit→Act→World→Prop} {a:Act} {w:World}
theorem zN9 {c:Code} (h:c.wpIn Fence.wide n P Q a w):wpR P c Q a w:=fun b k cs hro _=>h b k cs hro trivial (room_wide _)
theorem zCp {c:Code} (h:c.wp P Q a w):wpR P c Q a w:=zN9 (n:=0) (wpIn_wide.2 h)
theorem zB7 {x y:Code} (h:wpR P x (Exit.then (wpR P y Q) Q) a w):wpR P (.seq x y) Q a w:=by
 intro b k cs hro hb;have h0:(lone (b.atR a (.code (.seq x y)::k)) cs w).fenced P Fence.wide:=fenced_wide _ _;obtain⟨e,a₁,w₁,hq,harr⟩:=h b (.code y::k) cs hro hb
 cases e with
 | normal =>
  obtain⟨e₂,a₂,w₂,hq₂,harr₂⟩:=hq b k cs hro hb;exact⟨e₂,a₂,w₂,hq₂,.of_steps (.head h0 stepR_seq harr) harr₂⟩
 | exit id=>exact⟨_,a₁,w₁,hq,.of_steps (.one h0 stepR_seq) (.pass (x:=.code y) rfl (fun _ _=>.inl (by simp)) harr)⟩
 | goto l=>exact⟨_,a₁,w₁,hq,.of_steps (.one h0 stepR_seq) (.pass (x:=.code y) rfl (fun _ _=>.inl (by simp)) harr)⟩
 | ret=>exact⟨_,a₁,w₁,hq,.of_steps (.one h0 stepR_seq) (.pass (x:=.code y) rfl (fun _ _=>.inl (by simp)) harr)⟩
 | panic ch=>exact⟨_,a₁,w₁,hq,.of_steps (.one h0 stepR_seq) (.pass (x:=.code y) rfl (fun _ _=>.inl (by simp)) harr)⟩
 | outgrown=>exact⟨_,a₁,w₁,hq,.of_steps (.one h0 stepR_seq) (.pass (x:=.code y) rfl (fun _ _=>.inl (by simp)) harr)⟩
theorem zLn {id:Nat} {c:Code} (h:wpR P c (Exit.inBlock id Q) a w):wpR P (.block id c) Q a w:=by
 intro b k cs hro hb;have h0:(lone (b.atR a (.code (.block id c)::k)) cs w).fenced P Fence.wide:=fenced_wide _ _;obtain⟨e,a₁,w₁,hq,harr⟩:=h b (.inBlock id::k) cs hro hb
 cases e with
 | normal=>exact⟨.normal,a₁,w₁,hq,.head h0 stepR_block (StepsIn.trans harr (.one (fenced_wide _ _) stepR_inBlock))⟩
 | exit id' =>
  by_cases hid:id'=id
  ·simp only[Exit.inBlock,hid,if_true]at hq;exact⟨.normal,a₁,w₁,hq,.head h0 stepR_block (harr.1 k (by simp[exitTo,hid]))⟩
  ·simp only[Exit.inBlock,hid,if_false]at hq;have this:(id == id')=false:=by simp;exact fun h=>hid h.symm
   have hx:exitTo id' (.inBlock id::k)=exitTo id' k:=by simp[exitTo,this]
   exact⟨.exit id',a₁,w₁,hq,fun k' hk=>.head h0 stepR_block (harr.1 k' (by rw[hx];exact hk)),
    fun hr' hk=>let ⟨k₁,h1,h2⟩:=harr.2 hr' (by rw[hx];exact hk);⟨k₁,h1,.head h0 stepR_block h2⟩⟩
 | goto l =>
  have hx:gotoIn l (.inBlock id::k)=gotoIn l k:=by simp[gotoIn]
  exact⟨_,a₁,w₁,hq,fun k' hk=>.head h0 stepR_block (harr.1 k' (by rw[hx];exact hk)),
   fun hr' hk=>let ⟨k₁,h1,h2⟩:=harr.2 hr' (by rw[hx];exact hk);⟨k₁,h1,.head h0 stepR_block h2⟩⟩
 | ret=>exact⟨_,a₁,w₁,hq,.of_steps (.one h0 stepR_block) harr⟩
 | panic ch=>exact⟨_,a₁,w₁,hq,.of_steps (.one h0 stepR_block) harr⟩
 | outgrown=>exact⟨_,a₁,w₁,hq,.of_steps (.one h0 stepR_block) harr⟩
theorem zHt {f:FuncId} {fn:Func} {c:Code} {args:Array Value} {R:Ending→World→Prop} (hf:P.funcs[f]?=some fn) (hb:fn.body=some c)
  (h:wpR P c (bodyPostM Fence.wide n P fn R) {tmps:=args++Array.replicate (fn.ntmps - args.size) undef,defers:=[]} w):CallsIn Fence.wide n P f args w R:=by
 have hF:Fence.wide.fn f:=trivial;refine⟨hF,fun cs hr=>?_⟩
 let b:Frame:={(default:Frame) with fn:=f,kind:=.normal,roundOf:=none}
 have henter:Frame.enter P f args .normal =
   b.atR {tmps:=args++Array.replicate (fn.ntmps - args.size) undef,defers:=[]} [.code c]:=by
  simp[Frame.enter,Frame.atR,hf,hb,b]
 obtain⟨e,a',w',hq,harr⟩:=h b [] cs rfl ⟨fn,hf⟩;rw[← henter]at harr
 cases e with
 | normal =>
  obtain⟨e',w'',fr',hR,hs,hfn,hl⟩:=leaves_stepsInM a'.defers .returning w' {b.atR a' [] with mode:=.returning} cs rfl rfl rfl hf rfl hF hr hq
  exact⟨e',w'',fr',hR,ComesIn.of_steps (StepsIn.trans harr (.one (fenced_calm (fr:=b.atR a' []) hF hr rfl) (stepR_end rfl))) hs,hfn,hl⟩
 | ret =>
  obtain⟨todo,hs₀⟩:=harr.1 rfl;obtain⟨e',w'',fr',hR,hs,hfn,hl⟩:=leaves_stepsInM a'.defers .returning w' {b.atR a' todo with mode:=.returning} cs rfl rfl rfl hf rfl hF hr hq
  exact⟨e',w'',fr',hR,ComesIn.of_steps hs₀ hs,hfn,hl⟩
 | panic chain =>
  obtain⟨todo,hs₀⟩:=harr;obtain⟨e',w'',fr',hR,hs,hfn,hl⟩:=leaves_stepsInM a'.defers (.panicking chain) w' {b.atR a' todo with mode:=.panicking chain} cs rfl rfl rfl hf rfl hF hr hq
  exact⟨e',w'',fr',hR,ComesIn.of_steps hs₀ hs,hfn,hl⟩
 | exit id=>exact hq.elim
 | goto l=>exact hq.elim
 | outgrown=>exact⟨.outgrown,w',b,hq,harr.resolve_left (by simp[b]),rfl,trivial⟩
def zJW (P:Program) (l:Nat) (R:Ending→World→Prop):Exit→Act→World→Prop
 | .panic ch,a,w=>a.defers=[]∧R (.panicked ch) w
 | e,a,w=>roundPost P l R e a w
theorem zFV {l:Nat} {f:FuncId} {fn0:Func} {tmps:Array Value} {assign body:Code} {R:Ending→World→Prop} (hf:P.funcs[f]?=some fn0)
  (h:assign.wpIn (Fence.wide.inRound l) n P (Exit.then (fun a₁ w₁=>∃ w₂,(Instr.beginRound l).run P w₁=.ok () w₂∧body.wpIn (Fence.wide.inRound l) n P (zJW P l R) a₁ w₂) (fun _ _ _=>False))
   {tmps:=tmps,defers:=[]} w) :
  RoundIn Fence.wide n P l f tmps assign body w R:=by
 have hF:Fence.wide.fn f:=trivial;refine⟨hF,fun c cs hr=>?_⟩
 let b:Frame:={(default:Frame) with fn:=f,kind:=.normal,roundOf:=some l}
 have hb0:Frame.round l f tmps assign body .normal=b.atR {tmps:=tmps,defers:=[]} [.code assign,.beginRound,.code body]:=by
  simp[Frame.round,Frame.atR,b]
 have hr':(Fence.wide.inRound l).room ((c::cs).length+1+n):=hr;have hF':(Fence.wide.inRound l).fn b.fn:=hF;obtain⟨e,a₁,w₁,hq,harr⟩:=h b [.beginRound,.code body] (c::cs) rfl hF' hr';rw[← hb0]at harr
 cases e with
 | normal =>
  obtain⟨w₂,hbr,hbody⟩:=hq;have s1:StepsIn (Machine.fenced P (Fence.wide.inRound l)) P (lone (b.atR a₁ [.beginRound,.code body]) (c::cs) w₁) (lone (b.atR a₁ [.code body]) (c::cs) w₂) :=
   .one (fenced_calm (fr:=b.atR a₁ [.beginRound,.code body]) hF' hr' rfl) (stepR_beginRound rfl hbr)
  obtain⟨e₂,a₂,w₃,hq₂,harr₂⟩:=hbody b [] (c::cs) rfl hF' hr'
  cases e₂ with
  | normal =>
   obtain⟨v,w₄,hend,hR⟩:=hq₂;exact⟨.returned v,w₄,hR,(StepsIn.trans harr s1).trans (StepsIn.trans harr₂ (.one (fenced_calm (fr:=b.atR a₂ []) hF' hr' rfl) (stepR_round_end rfl rfl hend)))⟩
  | ret =>
   obtain⟨v,w₄,hend,hR⟩:=hq₂;obtain⟨k₁,hs⟩:=harr₂.2 rfl;exact⟨.returned v,w₄,hR,(StepsIn.trans harr s1).trans (StepsIn.trans hs (.one (fenced_calm (fr:=b.atR a₂ (.code .ret::k₁)) hF' hr' rfl) (stepR_round_ret rfl rfl hend)))⟩
  | exit id =>
   obtain⟨v,w₄,hend,hR⟩:=hq₂;obtain⟨k₁,hk,hs⟩:=harr₂.2 rfl rfl;exact⟨.returned v,w₄,hR,(StepsIn.trans harr s1).trans (StepsIn.trans hs (.one (fenced_calm (fr:=b.atR a₂ (.code (.exit id)::k₁)) hF' hr' rfl) (stepR_round_exit rfl rfl hk hend)))⟩
  | goto t =>
   obtain⟨v,w₄,hend,hR⟩:=hq₂;obtain⟨k₁,hk,hs⟩:=harr₂.2 rfl rfl;exact⟨.returned v,w₄,hR,(StepsIn.trans harr s1).trans (StepsIn.trans hs (.one (fenced_calm (fr:=b.atR a₂ (.code (.goto t)::k₁)) hF' hr' rfl) (stepR_round_goto rfl rfl hk hend)))⟩
  | panic chain =>
   obtain⟨hd,hR⟩:=hq₂;obtain⟨todo,hs⟩:=harr₂;refine⟨.panicked chain,w₃,hR,(StepsIn.trans harr s1).trans (StepsIn.trans hs (.one (fenced_wide _ _) (step_leave_panicked ?_)))⟩;exact⟨rfl,hd,fn0,hf⟩
  | outgrown=>exact hq₂.elim
 | exit id=>exact hq.elim
 | goto t=>exact hq.elim
 | ret=>exact hq.elim
 | panic chain=>exact hq.elim
 | outgrown=>exact hq.elim
theorem zHI {g:Operand} {ps:Array Tmp} {assign body:Code}
  (h:∀ fn,(∃ f,P.funcs[fn]?=some f)→∃ (l:Nat) (mark:List Deferred) (w₁:World) (d:Deferred) (w₁':World) (f:FuncId) (args:Array Value) (w₂:World),
   (Instr.enterLoop fn a.tmps ps assign body none).run P w=.ok (l,mark) w₁ ∧
   (resolve a.eval (rangeCall g l) 0).run P w₁=.ok d w₁' ∧
   (invoke d.target d.args).run P w₁'=.ok (.enter f args) w₂ ∧
   CallsIn Fence.wide n P f args w₂ (rangePost Fence.wide n P l Q {a with defers:=mark++a.defers})) :
  wpR P (Code.rangeFunc g ps assign body) Q a w:=by
 intro b k cs hro hb;have hr:=room_wide;obtain⟨l,mark,w₁,d,w₁',f,args,w₂,he,hres,hinv,hF,hcall⟩:=h b.fn hb;rw[← hro]at he;have h0:(lone (b.atR a (.code (.rangeFunc g ps assign body)::k)) cs w).fenced P Fence.wide:=fenced_wide _ _;have henter:=stepR_rangeFunc (P:=P) (b:=b) (a:=a) (k:=k) (cs:=cs) (w:=w) he hres hinv;obtain⟨e,w₃,fr,hR,hsteps,hfn,hleave⟩:=hcall (b.atR {a with defers:=mark++a.defers} (.inRangeFunc l::k)::cs) (hr _)
 cases e with
 | outgrown =>
  obtain⟨a₀,w₀,hq⟩:=hR;exact⟨.outgrown,a₀,w₀,hq,.inr (Outgrown.of_steps (.one henter) hsteps)⟩
 | returned v =>
  have hl:(lone fr (b.atR {a with defers:=mark++a.defers} (.inRangeFunc l::k)::cs) w₃).fenced P Fence.wide:=fenced_wide _ _
  obtain⟨jump,w₄,hend,hj⟩:=hR;have sback:StepsIn (Machine.fenced P Fence.wide) P (lone (b.atR a (.code (.rangeFunc g ps assign body)::k)) cs w) (lone (b.atR {a with defers:=mark++a.defers} ((jump.map Item.code).toList++k)) cs w₄):=by
   refine .head h0 henter (StepsIn.trans hsteps (.head hl ?_ (.one (fenced_wide _ _) (stepR_endRangeFunc hend))));rw[← finish_atR_inRangeFunc l v];exact step_leave_returned hleave
  cases jump with
  | none=>exact⟨.normal,_,w₄,hj,sback⟩
  | some c =>
   obtain⟨e',a'',w₅,hq,harr⟩:=hj b k cs hro trivial (hr _);exact⟨e',a'',w₅,hq,.of_steps sback harr⟩
 | panicked chain =>
  have hl:(lone fr (b.atR {a with defers:=mark++a.defers} (.inRangeFunc l::k)::cs) w₃).fenced P Fence.wide:=fenced_wide _ _
  refine⟨.panic chain,_,w₃,hR,.inRangeFunc l::k,.head h0 henter (StepsIn.trans hsteps (.one hl ?_))⟩;rw[← Frame.raise_atR];exact step_leave_panicked hleave
end
def zN4 (B:Nat) (Y:Option Code→World→Prop) (X:List PanicEntry→World→Prop) (W:World):Exit→Act→World→Prop
 | .normal,_,W'=>KeepsNC B W W'∧Y none W'
 | .ret,_,W'=>KeepsNC B W W'∧Y (some .ret) W'
 | .exit id,_,W'=>KeepsNC B W W'∧Y (some (.exit id)) W'
 | .goto t,_,W'=>KeepsNC B W W'∧Y (some (.goto t)) W'
 | .panic ch,a,W'=>a.defers=[]∧KeepsNC B W W'∧X ch W'
 | .outgrown,_,_=>False
def zOe (Q:Exit→Act→World→Prop) (a:Act) (W:World):Option Code→Prop
 | none=>Q .normal a W
 | some .ret=>Q .ret a W
 | some (.exit id)=>Q (.exit id) a W
 | some (.goto t)=>Q (.goto t) a W
 | _=>False
theorem zK6 {σ α:Type} {n:Nat} {P:Program} {g:Operand} {ps:Array Tmp} {assign body:Code} {Q:Exit→Act→World→Prop} {a:Act} {w:World}
  {gf:Nat} {lb:Array Value} (hg:a.eval g=.func (.func gf) #[] lb) (eg:∀ args w,(callFunc gf args).run P w=.ok (.enter gf args) w)
  {encs:α→Array Value} (hps:∀ x,(encs x).size=ps.size)
  (I0:World→Prop) (S:Option Code→World→Prop) (Pn:List PanicEntry→World→Prop) (Yp:σ→α→World→Prop) (Yq:σ→α→Option Code→World→Prop) (Yx:σ→α→List PanicEntry→World→Prop) (Ya:σ→α→Act→World→Prop)
  (st0:Stay w.heap.size I0) (stS:∀ j,Stay w.heap.size (S j)) (stYq:∀ s x j,Stay w.heap.size (Yq s x j)) (stYa:∀ s x a,Stay w.heap.size (Ya s x a))
  (hiter:∀ (l:Nat) (B:Option Code→World→Prop) (K:World→Prop),(∀ j W W',KeepsNC w.heap.size W W'→B j W→B j W')→(∀ W W',KeepsNC w.heap.size W W'→K W→K W')→(∀ j W,B j W→K W) →
   (∀ s x W1,Yp s x W1→B none W1→YieldAt Fence.wide (n - 1) P l (encs x) W1 fun e W'=>(∃ j:Option Code,e=.returned (.bool j.isNone)∧Yq s x j W'∧B j W')∨∃ ch,e=.panicked ch∧Yx s x ch W'∧K W') →
   ∀ W,I0 W→B none W→CallsIn Fence.wide n P gf (#[.func (.yield l) #[] #[]]++lb) W fun e W'=>(∃ v j,e=.returned v∧S j W'∧B j W')∨∃ ch,e=.panicked ch∧Pn ch W'∧K W')
  (h0:I0 w)
  (hassign:∀ (l:Nat) (s:σ) (x:α) (W:World),Yp s x W →
   assign.wpIn (Fence.wide.inRound l) (n - 1) P (Exit.then (fun a1 W1=>KeepsNC w.heap.size W W1∧Ya s x a1 W1) (fun _ _ _=>False)) {tmps:=(ps.zip (encs x)).foldl (fun t (p,v)=>t.setIfInBounds p v) a.tmps,defers:=[]} W)
  (hbody:∀ (l:Nat) (s:σ) (x:α) (a1:Act) (W:World),Ya s x a1 W→body.wpIn (Fence.wide.inRound l) (n - 1) P (zN4 w.heap.size (Yq s x) (Yx s x) W) a1 W)
  (hdone:∀ (D:Nat) (j:Option Code) (W:World),w.heap.size≤D→S j W→W.heap[D]?=some (.deferred (some []))→zOe Q {a with defers:={target:=.collected D,args:=#[]}::a.defers} W j)
  (hpan:∀ (D:Nat) (ch:List PanicEntry) (W:World),w.heap.size≤D→Pn ch W→W.heap[D]?=some (.deferred (some []))→Q (.panic ch) {a with defers:={target:=.collected D,args:=#[]}::a.defers} W) :
  wpR P (Code.rangeFunc g ps assign body) Q a w:=by
 refine zHI (n:=n) ?_
 intro fn hfn;obtain⟨fn0,hfn⟩:=hfn;obtain⟨rec,hrec⟩:∃ rec:LoopState→Option Code→Loop,rec=fun st pe=>{state:=st,pending:=pe,fn,tmps:=a.tmps,params:=ps,assign,body,defers:=w.heap.size}:=⟨_,rfl⟩
 obtain⟨W1,hW1⟩:∃ W1,(w.alloc (.deferred (some []))).alloc (.loop (rec .ready none))=W1:=⟨_,rfl⟩;have hL1:W1.heap[w.heap.size+1]?=some (.loop (rec .ready none)):=by
  rw[← hW1];have:=World.alloc_heap_new (w.alloc (.deferred (some []))) (.loop (rec .ready none));rwa [World.size_alloc]at this
 have hK1:W1.heap[w.heap.size]?=some (.deferred (some [])):=by
  rw[← hW1];exact(Below.heap_alloc _ _ _ (by simp)).trans (World.alloc_heap_new w _)
 have hI1:I0 W1:=by rw[← hW1];exact st0.alloc _ (st0.alloc _ h0)
 refine⟨w.heap.size+1,[{target:=.collected w.heap.size,args:=#[]}],W1,{target:=.fn (.func gf) lb,args:=#[.func (.yield (w.heap.size+1)) #[] #[]]},W1,gf,
  #[.func (.yield (w.heap.size+1)) #[] #[]]++lb,W1,?_,?_,?_,?_⟩
 ·rw[← hW1,hrec];exact run_enterLoop_outer _ _ _ _ _
 ·simp only[resolve,hg];simp[go_sem]
 ·simp[invoke,go_sem,eg]
 ·refine(hiter (w.heap.size+1) (fun j W=>W.heap[w.heap.size+1]?=some (.loop (rec (if j.isNone then .ready else .done) j))∧W.heap[w.heap.size]?=some (.deferred (some []))) (fun W=>W.heap[w.heap.size]?=some (.deferred (some [])))
   (fun j W W' hk hB=>⟨hk.same _ _ (by omega) hB.1 rfl,hk.same _ _ (Nat.le_refl _) hB.2 rfl⟩) (fun W W' hk hB=>hk.same _ _ (Nat.le_refl _) hB rfl) (fun j W hB=>hB.2) ?_ W1 hI1 ⟨hL1,hK1⟩).mono ?_
  ·rintro s x W hy ⟨hl,hk⟩;have hl:W.heap[w.heap.size+1]?=some (.loop (rec .ready none)):=hl;have hlt:w.heap.size+1<W.heap.size:=(Array.getElem?_eq_some_iff.1 hl).1;have hyr:=run_yield (P:=P) (args:=encs x) hl (by rw[hrec];exact hps x)
   rw[hrec]at hyr;refine⟨fn,_,assign,body,hyr,zFV hfn (wpIn_mono (hassign (w.heap.size+1) s x W hy) ?_)⟩;rintro e a1 Wa hp
   cases e with
   | normal =>
    obtain⟨hka,hya⟩:=hp;have hla:=hka.same _ _ (by omega) hl rfl
    have hda:=hka.same _ _ (Nat.le_refl _) hk rfl;refine⟨_,run_beginRound hla (by rw[hrec]),?_⟩
    have hlt2:w.heap.size+1<Wa.heap.size:=(Array.getElem?_eq_some_iff.1 hla).1;have hl2:(Wa.putObj (w.heap.size+1) (.loop {rec .ready none with state:=.busy})).heap[w.heap.size+1]?=some (.loop {rec .ready none with state:=.busy}):=World.putObj_heap_same hlt2
    have hk2:(Wa.putObj (w.heap.size+1) (.loop {rec .ready none with state:=.busy})).heap[w.heap.size]?=some (.deferred (some [])):=(World.putObj_heap_other (by omega)).trans hda
    refine wpIn_mono (hbody _ s x a1 _ ((stYa s x a1).putObj _ hya (by omega) hla rfl)) ?_
    have key:∀ (j:Option Code) (W3:World),KeepsNC w.heap.size (Wa.putObj (w.heap.size+1) (.loop {rec .ready none with state:=.busy})) W3→Yq s x j W3→∃ v w',(Instr.endRound (w.heap.size+1) j).run P W3=.ok v w'∧((∃ j:Option Code,Ending.returned v=.returned (.bool j.isNone)∧Yq s x j w'∧w'.heap[w.heap.size+1]?=some (.loop (rec (if j.isNone then .ready else .done) j))∧w'.heap[w.heap.size]?=some (.deferred (some [])))∨∃ ch,Ending.returned v=.panicked ch∧Yx s x ch w'∧w'.heap[w.heap.size]?=some (.deferred (some []))):=by
     intro j W3 hk3 hq3;have hl3:=hk3.same _ _ (by omega) hl2 rfl
     have hd3:=hk3.same _ _ (Nat.le_refl _) hk2 rfl;have hre:=run_endRound (P:=P) j hl3;refine⟨_,_,hre,.inl ⟨j,rfl,(stYq s x j).putObj _ hq3 (by omega) hl3 rfl,?_,(World.putObj_heap_other (by omega)).trans hd3⟩⟩
     rw[World.putObj_heap_same (Array.getElem?_eq_some_iff.1 hl3).1,hrec]
    rintro e a3 W3 hp
    cases e with
    | normal=>exact key none W3 hp.1 hp.2
    | ret=>exact key (some .ret) W3 hp.1 hp.2
    | exit id=>exact key (some (.exit id)) W3 hp.1 hp.2
    | goto t=>exact key (some (.goto t)) W3 hp.1 hp.2
    | panic ch=>exact⟨hp.1,.inr ⟨ch,rfl,hp.2.2,hp.2.1.same _ _ (Nat.le_refl _) hk2 rfl⟩⟩
    | outgrown=>exact hp.elim
   | ret=>exact hp.elim
   | exit id=>exact hp.elim
   | goto t=>exact hp.elim
   | panic ch=>exact hp.elim
   | outgrown=>exact hp.elim
  ·rintro e W2 (⟨v,j,rfl,hS,hl,hk⟩|⟨ch,rfl,hP,hk⟩)
   ·have hd:=hdone w.heap.size j _ (Nat.le_refl _) ((stS j).putObj (.loop {rec (if j.isNone then .ready else .done) j with state:=.exhausted}) hS (by omega) hl rfl) ((World.putObj_heap_other (by omega)).trans hk)
    have hend:=run_endLoop (P:=P) hl (by rw[hrec];cases j<;>simp)
    subst hrec;refine⟨j,_,hend,?_⟩
    cases j with
    | none=>exact hd
    | some c =>
     cases c with
     | ret=>exact wpIn_ret hd
     | exit id=>exact wpIn_exit hd
     | goto t=>exact wpIn_goto hd
     | _=>exact hd.elim
   ·exact hpan _ ch _ (Nat.le_refl _) hP hk
structure Agree (L L':Str) (m:Nat):Prop where
 one:m≤L.length
 two:m≤L'.length
 same:L.take m=L'.take m
theorem Agree.symm {L L':Str} {m:Nat} (h:Agree L L' m):Agree L' L m:=⟨h.two,h.one,h.same.symm⟩
theorem Agree.le {L L':Str} {m n:Nat} (h:Agree L L' m) (hn:n≤m):Agree L L' n:=by
 refine⟨by have:=h.one;omega,by have:=h.two;omega,?_⟩
 have:=congrArg (List.take n) h.same
 rwa [List.take_take,List.take_take,Nat.min_eq_left hn]at this
theorem Agree.byt {L L':Str} {m k:Nat} (h:Agree L L' m) (hk:k<m):byt L' k=byt L k:=by
 have h1:=h.one;have h2:=h.two;rw[zHZ (by omega),zHZ (by omega)]
 have e:(L.take m)[k]'(by simp;omega)=(L'.take m)[k]'(by simp;omega):=by simp only[h.same]
 simp only[List.getElem_take]at e;rw[e]
theorem Agree.at {L L' t:Str} {m i:Nat} (h:Agree L L' m) (hk:i+t.length≤m):atP L' i t=atP L i t:=by
 have h1:=h.one;have h2:=h.two;rw[← zN7 (by omega),← zN7 (by omega),(h.le hk).same]
section
variable (A B:Str)
end

def er (w:WordD):WordD:={w with place:=0}
section
variable {f:zAU} {la:List WordD} {ta:Tree} {ga:Nat}
end
section
variable {A B:Str} {f:zAU} {n m:Tree} {i k:Nat}
end
end
section
open Go.RowKit Go.Shelf
attribute [local go_sem] Oper.semAt_some
def NW (A:Nat→Option Obj→Prop) (t:Tree) (v:Value) (W:World):Prop:=∃ p c F,v=zAa t.d (.slice p t.kids.length c)∧ForestR W F p c t.kids∧∀ b,F b→b<W.heap.size∧A b W.heap[b]?
def KW (A:Nat→Option Obj→Prop) (ts:List Tree) (v:Value) (W:World):Prop:=∃ p c F,v=.slice p ts.length c∧ForestR W F p c ts∧∀ b,F b→b<W.heap.size∧A b W.heap[b]?
section
variable {A:Nat→Option Obj→Prop}
theorem NW.below {t:Tree} {v:Value} {w w':World} (h:NW A t v w) (hb:Below w.heap.size w w'):NW A t v w':=by
 obtain⟨p,c,F,e,h,hF⟩:=h;exact⟨p,c,F,e,h.kept fun b hf=>hb.block b (hF b hf).1,fun b hf=>⟨Nat.lt_of_lt_of_le (hF b hf).1 hb.size,by rw[hb.block b (hF b hf).1];exact(hF b hf).2⟩⟩
theorem KW.below {t:List Tree} {v:Value} {w w':World} (h:KW A t v w) (hb:Below w.heap.size w w'):KW A t v w':=by
 obtain⟨p,c,F,e,h,hF⟩:=h;exact⟨p,c,F,e,h.kept fun b hf=>hb.block b (hF b hf).1,fun b hf=>⟨Nat.lt_of_lt_of_le (hF b hf).1 hb.size,by rw[hb.block b (hF b hf).1];exact(hF b hf).2⟩⟩
theorem zKq (t:Tree):zDZ (NW A t):=fun _ _ _ h hb=>h.below hb
theorem zKQ (t:List Tree):zDZ (KW A t):=fun _ _ _ h hb=>h.below hb
theorem NW.kids {t:Tree} {v:Value} {W:World} (h:NW A t v W):∃ u,v=zAa t.d u∧KW A t.kids u W:=by
 obtain⟨p,c,F,rfl,h,hF⟩:=h;exact⟨_,rfl,p,c,F,rfl,h,hF⟩
theorem NW.leaf (d:NodeD) (W:World):NW A (.mk d []) (zAa d nilS) W:=⟨none,0,fun _=>False,rfl,ForestR.nil ..,fun _ h=>h.elim⟩
end
theorem zEf {V:World} {g:Nat} {cs:Array Value} {T:TypeId} {f:Nat × Nat} {xs:List TV} {F:Nat→Prop} (h:V.heap[g]?=some (.cells cs T f)) (hc:cs=(zAc (xs.map zAo)).toArray) (hn:xs.length≤1000000) (hk:ListR V F xs):ForestR V (fun b=>b=g∨F b) (some ⟨g,0,none⟩) xs.length (xs.map (·.1)):=by
 refine .mk _ _ _ xs ⟨some ⟨g,0,none⟩,xs.length,by simp,by simp,by unfold maxLen;omega,(fun h=>by cases h),fun j r hr=>⟨g,0,rfl,.inl rfl,zBh xs r (List.mem_of_getElem? hr),fun k hk=>?_⟩⟩ (hk.mono fun _ h=>.inr h) rfl
 rw[Nat.zero_add,cell_of_row V g _ cs T f h,hc,List.getElem?_toArray];exact zDG (zBh xs) hr hk
section
variable {A:Nat→Option Obj→Prop}
theorem KW.of_alloc {w:World} {ts:List Tree} {vs:List Value} (h:∀ (i:Nat) (t:Tree),ts[i]?=some t→∃ v,vs[i]?=some v∧NW A t v w) (hn:ts.length≤1000000) {cs:Array Value} (hc:cs=(vs.flatMap fun v=>v.cells.toList).toArray) (hl:vs.length=ts.length) (hA:A w.heap.size (some (.cells cs 31 (0,0)))) :
  KW A ts (.slice (some ⟨w.heap.size,0,none⟩) ts.length ts.length) (w.alloc (.cells cs 31)):=by
 have key:∀ (ts:List Tree) (vs:List Value),(∀ (i:Nat) (t:Tree),ts[i]?=some t→∃ v,vs[i]?=some v∧NW A t v w)→vs.length=ts.length→∃ xs:List TV,xs.map (·.1)=ts∧(vs.flatMap fun v=>v.cells.toList)=zAc (xs.map zAo)∧∃ F:Nat→Prop,ListR w F xs∧∀ b,F b→b<w.heap.size∧A b w.heap[b]?:=by
  intro ts
  induction ts with
  | nil =>
   intro vs _ hl;obtain rfl:vs=[]:=List.length_eq_zero_iff.1 hl;exact⟨[],rfl,rfl,fun _=>False,ListR.nil _ _,fun _ h=>h.elim⟩
  | cons t r ih =>
   intro vs h hl
   cases vs with
   | nil=>cases hl
   | cons v vs =>
    obtain⟨xs,e1,e2,F,h1,h2⟩:=ih vs (fun i t ht=>h (i+1) t (by simpa using ht)) (by simpa using hl)
    obtain⟨u,hu,p,c,G,rfl,g1,g2⟩:=h 0 t rfl;simp at hu;subst hu;refine⟨(t,p,c)::xs,by simp[e1],?_,fun b=>F b∨G b,?_,fun b hb=>hb.elim (h2 b) (g2 b)⟩
    ·rw[List.flatMap_cons,e2];simp[zAc,zAo,Value.cells]
    ·intro x hx;rcases List.mem_cons.1 hx with rfl|hx
     ·exact g1.mono fun _ h=>.inr h
     ·exact(h1 x hx).mono fun _ h=>.inl h
 obtain⟨xs,e1,e2,F,h1,h2⟩:=key ts vs h hl;subst e1;rw[List.length_map]at hn ⊢;refine⟨_,xs.length,fun b=>b=w.heap.size∨F b,by rw[List.length_map],?_,?_⟩
 ·refine zEf (World.alloc_heap_new w _) (by rw[hc,e2]) hn (h1.kept fun b hb=>?_)
  exact((Below.refl _ w).alloc (Nat.le_refl _) _).block b (h2 b hb).1
 ·intro b hb;have hs:w.heap.size<(w.alloc (.cells cs 31)).heap.size:=(Array.getElem?_eq_some_iff.1 (World.alloc_heap_new w _)).1;rcases hb with rfl|hb
  ·exact⟨hs,by rw[World.alloc_heap_new];exact hA⟩
  ·have hlt:=(h2 b hb).1;exact⟨by omega,by rw[((Below.refl _ w).alloc (Nat.le_refl _) _).block b hlt];exact(h2 b hb).2⟩
theorem zKa (d:NodeD) (s:Value) (W:World):(Instr.buildSlice 29 1 #[(0,zAa d s)]).run Tryd.prog W=.ok (.slice (some ⟨W.heap.size,0,none⟩) 1 1) (W.alloc (.cells (([zAa d s].flatMap fun v=>v.cells.toList).toArray) 31)):=by kernel_rfl
theorem zK7 (d:NodeD) (s:Value) (d1:NodeD) (s1:Value) (W:World):(Instr.buildSlice 29 2 #[(0,zAa d s),(1,zAa d1 s1)]).run Tryd.prog W=.ok (.slice (some ⟨W.heap.size,0,none⟩) 2 2) (W.alloc (.cells (([zAa d s,zAa d1 s1].flatMap fun v=>v.cells.toList).toArray) 31)):=by kernel_rfl
theorem zOj {t:Tree} {v:Value} {w:World} (h:NW A t v w) (hA:∀ cs:Array Value,(∃ s,cs=zAQ t.d s)→A w.heap.size (some (.cells cs 31 (0,0)))):∃ cs,(Instr.buildSlice 29 1 #[(0,v)]).run Tryd.prog w=.ok (.slice (some ⟨w.heap.size,0,none⟩) 1 1) (w.alloc (.cells cs 31))∧KW A [t] (.slice (some ⟨w.heap.size,0,none⟩) 1 1) (w.alloc (.cells cs 31)):=by
 obtain⟨u,rfl,_⟩:=h.kids;refine⟨_,zKa t.d u w,KW.of_alloc (ts:=[t]) (vs:=[zAa t.d u]) (fun i x hx=>?_) (by simp) rfl rfl (hA _ ⟨u,by simp[Value.cells]⟩)⟩
 match i,hx with
 | 0,hx=>cases hx;exact⟨_,rfl,h⟩
theorem zOh {t t1:Tree} {v v1:Value} {w:World} (h:NW A t v w) (h1:NW A t1 v1 w) (hA:∀ cs:Array Value,cs.size=20→A w.heap.size (some (.cells cs 31 (0,0)))):∃ cs,(Instr.buildSlice 29 2 #[(0,v),(1,v1)]).run Tryd.prog w=.ok (.slice (some ⟨w.heap.size,0,none⟩) 2 2) (w.alloc (.cells cs 31))∧KW A [t,t1] (.slice (some ⟨w.heap.size,0,none⟩) 2 2) (w.alloc (.cells cs 31)):=by
 obtain⟨u,rfl,_⟩:=h.kids;obtain⟨u1,rfl,_⟩:=h1.kids;refine⟨_,zK7 t.d u t1.d u1 w,KW.of_alloc (ts:=[t,t1]) (vs:=[zAa t.d u,zAa t1.d u1]) (fun i x hx=>?_) (by simp) rfl rfl (hA _ rfl)⟩
 match i,hx with
 | 0,hx=>cases hx;exact⟨_,rfl,h⟩
 | 1,hx=>cases hx;exact⟨_,rfl,h1⟩
end
section
variable {ops:Array Oper} {o:Oper} {a:Act} {w:World} {D:Prop} {A:Nat→Option Obj→Prop}
theorem zLv {t0:Tree} {x0:Operand} (hg:Region.wanted o (yielded ops a.tmps)=true) (hop:o.op=.buildSlice 29 1 #[(0,x0)]) (h0:NW A t0 (a.eval x0) w) (hA:∀ cs:Array Value,(∃ s,cs=zAQ t0.d s)→A w.heap.size (some (.cells cs 31 (0,0)))) (hD:¬ D:=by decide):zBK Tryd.prog ops o a w (fun v w'=>KW A [t0] v w'∧(D→w.heap.size≤blk v)):=by
 obtain⟨cs,e,h⟩:=zOj h0 hA;refine zC1 hg (v:=.slice (some ⟨w.heap.size,0,none⟩) 1 1) (w':=w.alloc (.cells cs 31)) ?_ ((Below.refl _ w).alloc (Nat.le_refl _) _) ⟨h,fun h=>(hD h).elim⟩
 simp only[execOp,hop,List.map_toArray,List.map_cons,List.map_nil,Sem.run_bind,e,Result.andThen_ok];rfl
theorem zJS {t0 t1:Tree} {x0 x1:Operand} (hg:Region.wanted o (yielded ops a.tmps)=true) (hop:o.op=.buildSlice 29 2 #[(0,x0),(1,x1)]) (h0:NW A t0 (a.eval x0) w) (h1:NW A t1 (a.eval x1) w) (hA:∀ cs:Array Value,cs.size=20→A w.heap.size (some (.cells cs 31 (0,0)))) (hD:¬ D:=by decide):zBK Tryd.prog ops o a w (fun v w'=>KW A [t0,t1] v w'∧(D→w.heap.size≤blk v)):=by
 obtain⟨cs,e,h⟩:=zOh h0 h1 hA;refine zC1 hg (v:=.slice (some ⟨w.heap.size,0,none⟩) 2 2) (w':=w.alloc (.cells cs 31)) ?_ ((Below.refl _ w).alloc (Nat.le_refl _) _) ⟨h,fun h=>(hD h).elim⟩
 simp only[execOp,hop,List.map_toArray,List.map_cons,List.map_nil,Sem.run_bind,e,Result.andThen_ok];rfl
theorem zKW {t:Tree} {v:Value} (hg:Region.wanted o (yielded ops a.tmps)=true) (hr:(execOp a.eval o).run Tryd.prog w=.ok (.value v) w) (h:NW A t v w) (hD:¬ D:=by decide):zBK Tryd.prog ops o a w (fun v w'=>NW A t v w'∧(D→w.heap.size≤blk v)) :=
 zC1 hg hr (Below.refl _ w) ⟨h,fun h=>(hD h).elim⟩
theorem zKk {t:Tree} {x:Operand} {b:Nat} {s:Value} (hg:Region.wanted o (yielded ops a.tmps)=true) (hop:o.op=.load 31 x) (hx:a.eval x=.pointer (some ⟨b,0,none⟩)) (hv:w.heap[b]?=some (.cells (zAQ t.d s) 31 (0,0))) (h:NW A t (zAa t.d s) w) (hD:¬ D:=by decide) :
  zBK Tryd.prog ops o a w (fun v w'=>NW A t v w'∧(D→w.heap.size≤blk v)) :=
 zKW hg (zCI hop hx zAW rfl fun j _=>by rw[Nat.zero_add,cell_of_row w b _ _ _ _ hv]) h hD
end
theorem zNE {L:Str} {f j:Nat} {op:Bool} {d:WordD} (h1:j<L.length) (h2:byt L j=105):zAT L (f+1) j false op d=zAT L f (j+1) false true {d with on:=(true,d.on.2.1,d.on.2.2)}:=by
 rw[zAT,if_pos h1];simp[h2]
theorem zNg {L:Str} {f j:Nat} {op:Bool} {d:WordD} (h1:j<L.length) (h2:byt L j=105):zAT L (f+1) j true op d=zAT L f (j+1) true true {d with off:=(true,d.off.2.1,d.off.2.2)}:=by
 rw[zAT,if_pos h1];simp[h2]
theorem zNW {L:Str} {f j:Nat} {op:Bool} {d:WordD} (h1:j<L.length) (h2:byt L j=109):zAT L (f+1) j false op d=zAT L f (j+1) false true {d with on:=(d.on.1,true,d.on.2.2)}:=by
 rw[zAT,if_pos h1];simp[h2]
theorem zNt {L:Str} {f j:Nat} {op:Bool} {d:WordD} (h1:j<L.length) (h2:byt L j=109):zAT L (f+1) j true op d=zAT L f (j+1) true true {d with off:=(d.off.1,true,d.off.2.2)}:=by
 rw[zAT,if_pos h1];simp[h2]
theorem zNX {L:Str} {f j:Nat} {op:Bool} {d:WordD} (h1:j<L.length) (h2:byt L j=115):zAT L (f+1) j false op d=zAT L f (j+1) false true {d with on:=(d.on.1,d.on.2.1,true)}:=by
 rw[zAT,if_pos h1];simp[h2]
theorem zNR {L:Str} {f j:Nat} {op:Bool} {d:WordD} (h1:j<L.length) (h2:byt L j=115):zAT L (f+1) j true op d=zAT L f (j+1) true true {d with off:=(d.off.1,d.off.2.1,true)}:=by
 rw[zAT,if_pos h1];simp[h2]
theorem zNy {L:Str} {f j:Nat} {op:Bool} {d:WordD} (h1:j<L.length) (h2:byt L j=45):zAT L (f+1) j false op d=zAT L f (j+1) true false d:=by
 rw[zAT,if_pos h1];simp[h2]
theorem zOA {L:Str} {f j:Nat} {op:Bool} {d:WordD} (h1:j<L.length) (h2:byt L j=45):zAT L (f+1) j true op d=none:=by
 rw[zAT,if_pos h1];simp[h2]
theorem zMt {L:Str} {f j:Nat} {off:Bool} {d:WordD} (h1:j<L.length) (h2:byt L j=58):zAT L (f+1) j off true d=some ({d with kind:=7},j+1):=by
 rw[zAT,if_pos h1];simp[h2]
theorem zM9 {L:Str} {f j:Nat} {off:Bool} {d:WordD} (h1:j<L.length) (h2:byt L j=58):zAT L (f+1) j off false d=none:=by
 rw[zAT,if_pos h1];simp[h2]
theorem zMz {L:Str} {f j:Nat} {off:Bool} {d:WordD} (h1:j<L.length) (h2:byt L j=41):zAT L (f+1) j off true d=some ({d with kind:=8},j+1):=by
 rw[zAT,if_pos h1];simp[h2]
theorem zMv {L:Str} {f j:Nat} {off:Bool} {d:WordD} (h1:j<L.length) (h2:byt L j=41):zAT L (f+1) j off false d=none:=by
 rw[zAT,if_pos h1];simp[h2]
theorem zON {L:Str} {f j:Nat} {off op:Bool} {d:WordD} (h1:j<L.length) (h2:byt L j≠105) (h3:byt L j≠109) (h4:byt L j≠115) (h5:byt L j≠45) (h6:byt L j≠58) (h7:byt L j≠41):zAT L (f+1) j off op d=none:=by
 rw[zAT,if_pos h1];simp[h2,h3,h4,h5,h6,h7]
theorem zOQ {L:Str} {f j:Nat} {off op:Bool} {d:WordD} (h1:¬ j<L.length):zAT L (f+1) j off op d=none:=by
 rw[zAT,if_neg h1]
end
end Go.Proofs.YtklcgfkdemifcaaDoor
