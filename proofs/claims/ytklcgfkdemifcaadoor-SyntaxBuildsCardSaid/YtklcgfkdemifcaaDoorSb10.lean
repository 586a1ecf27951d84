/-
  Laws of walks, and walks.
-/
import Derived.Test.YtklcgfkdemifcaaDoorSb9
import Derived.RangeFuncLeaves
import Derived.Test.YtklcgfkdemifcaaDoorSb3
import Derived.Test.YtklcgfkdemifcaaDoorSb2
set_option linter.unusedVariables false
set_option linter.unusedSimpArgs false
set_option maxRecDepth 100000
set_option maxHeartbeats 16000000
namespace Go.Proofs.YtklcgfkdemifcaaDoor
section
open Go.RowKit
def wpR (P:Program) (c:Code) (Q:Exit→Act→World→Prop) (a:Act) (w:World):Prop :=
 ∀ (b:Frame) (k:List Item) (cs:List Frame),b.roundOf=none→(∃ fn,P.funcs[b.fn]?=some fn) →
  ∃ e a' w',Q e a' w'∧ArrivesIn (Machine.fenced P Fence.wide) P (lone (b.atR a (.code c::k)) cs w) b k cs e a' w'
section
variable {n:Nat} {P:Program} {Q:Exit→Act→World→Prop} {a:Act} {w:World}
theorem zP3 {c:Code} (h:c.wpIn Fence.wide n P Q a w):wpR P c Q a w:=fun b k cs hro _=>h b k cs hro trivial (room_wide _)
theorem zDD {c:Code} (h:c.wp P Q a w):wpR P c Q a w:=zP3 (n:=0) (wpIn_wide.2 h)
theorem zCO {x y:Code} (h:wpR P x (Exit.then (wpR P y Q) Q) a w):wpR P (.seq x y) Q a w:=by
 intro b k cs hro hb;have h0:(lone (b.atR a (.code (.seq x y)::k)) cs w).fenced P Fence.wide:=fenced_wide _ _;obtain⟨e,a₁,w₁,hq,harr⟩:=h b (.code y::k) cs hro hb
 cases e with
 | normal =>
  obtain⟨e₂,a₂,w₂,hq₂,harr₂⟩:=hq b k cs hro hb;exact⟨e₂,a₂,w₂,hq₂,.of_steps (.head h0 stepR_seq harr) harr₂⟩
 | exit id=>exact⟨_,a₁,w₁,hq,.of_steps (.one h0 stepR_seq) (.pass (x:=.code y) rfl (fun _ _=>.inl (by simp)) harr)⟩
 | goto l=>exact⟨_,a₁,w₁,hq,.of_steps (.one h0 stepR_seq) (.pass (x:=.code y) rfl (fun _ _=>.inl (by simp)) harr)⟩
 | ret=>exact⟨_,a₁,w₁,hq,.of_steps (.one h0 stepR_seq) (.pass (x:=.code y) rfl (fun _ _=>.inl (by simp)) harr)⟩
 | panic ch=>exact⟨_,a₁,w₁,hq,.of_steps (.one h0 stepR_seq) (.pass (x:=.code y) rfl (fun _ _=>.inl (by simp)) harr)⟩
 | outgrown=>exact⟨_,a₁,w₁,hq,.of_steps (.one h0 stepR_seq) (.pass (x:=.code y) rfl (fun _ _=>.inl (by simp)) harr)⟩
theorem zLv {id:Nat} {c:Code} (h:wpR P c (Exit.inBlock id Q) a w):wpR P (.block id c) Q a w:=by
 intro b k cs hro hb;have h0:(lone (b.atR a (.code (.block id c)::k)) cs w).fenced P Fence.wide:=fenced_wide _ _;obtain⟨e,a₁,w₁,hq,harr⟩:=h b (.inBlock id::k) cs hro hb
 cases e with
 | normal=>exact⟨.normal,a₁,w₁,hq,.head h0 stepR_block (StepsIn.trans harr (.one (fenced_wide _ _) stepR_inBlock))⟩
 | exit id' =>
  by_cases hid:id'=id
  ·simp only[Exit.inBlock,hid,if_true]at hq;exact⟨.normal,a₁,w₁,hq,.head h0 stepR_block (harr.1 k (by simp[exitTo,hid]))⟩
  ·simp only[Exit.inBlock,hid,if_false]at hq;have this:(id == id')=false:=by simp;exact fun h=>hid h.symm
   have hx:exitTo id' (.inBlock id::k)=exitTo id' k:=by simp[exitTo,this]
   exact⟨.exit id',a₁,w₁,hq,fun k' hk=>.head h0 stepR_block (harr.1 k' (by rw[hx];exact hk)),
    fun hr' hk=>let ⟨k₁,h1,h2⟩:=harr.2 hr' (by rw[hx];exact hk);⟨k₁,h1,.head h0 stepR_block h2⟩⟩
 | goto l =>
  have hx:gotoIn l (.inBlock id::k)=gotoIn l k:=by simp[gotoIn]
  exact⟨_,a₁,w₁,hq,fun k' hk=>.head h0 stepR_block (harr.1 k' (by rw[hx];exact hk)),
   fun hr' hk=>let ⟨k₁,h1,h2⟩:=harr.2 hr' (by rw[hx];exact hk);⟨k₁,h1,.head h0 stepR_block h2⟩⟩
 | ret=>exact⟨_,a₁,w₁,hq,.of_steps (.one h0 stepR_block) harr⟩
 | panic ch=>exact⟨_,a₁,w₁,hq,.of_steps (.one h0 stepR_block) harr⟩
 | outgrown=>exact⟨_,a₁,w₁,hq,.of_steps (.one h0 stepR_block) harr⟩
theorem zJV {f:FuncId} {fn:Func} {c:Code} {args:Array Value} {R:Ending→World→Prop} (hf:P.funcs[f]?=some fn) (hb:fn.body=some c)
  (h:wpR P c (bodyPostM Fence.wide n P fn R) {tmps:=args++Array.replicate (fn.ntmps - args.size) undef,defers:=[]} w):CallsIn Fence.wide n P f args w R:=by
 have hF:Fence.wide.fn f:=trivial;refine⟨hF,fun cs hr=>?_⟩
 let b:Frame:={(default:Frame) with fn:=f,kind:=.normal,roundOf:=none}
 have henter:Frame.enter P f args .normal =
   b.atR {tmps:=args++Array.replicate (fn.ntmps - args.size) undef,defers:=[]} [.code c]:=by
  simp[Frame.enter,Frame.atR,hf,hb,b]
 obtain⟨e,a',w',hq,harr⟩:=h b [] cs rfl ⟨fn,hf⟩;rw[← henter]at harr
 cases e with
 | normal =>
  obtain⟨e',w'',fr',hR,hs,hfn,hl⟩:=leaves_stepsInM a'.defers .returning w' {b.atR a' [] with mode:=.returning} cs rfl rfl rfl hf rfl hF hr hq
  exact⟨e',w'',fr',hR,ComesIn.of_steps (StepsIn.trans harr (.one (fenced_calm (fr:=b.atR a' []) hF hr rfl) (stepR_end rfl))) hs,hfn,hl⟩
 | ret =>
  obtain⟨todo,hs₀⟩:=harr.1 rfl;obtain⟨e',w'',fr',hR,hs,hfn,hl⟩:=leaves_stepsInM a'.defers .returning w' {b.atR a' todo with mode:=.returning} cs rfl rfl rfl hf rfl hF hr hq
  exact⟨e',w'',fr',hR,ComesIn.of_steps hs₀ hs,hfn,hl⟩
 | panic chain =>
  obtain⟨todo,hs₀⟩:=harr;obtain⟨e',w'',fr',hR,hs,hfn,hl⟩:=leaves_stepsInM a'.defers (.panicking chain) w' {b.atR a' todo with mode:=.panicking chain} cs rfl rfl rfl hf rfl hF hr hq
  exact⟨e',w'',fr',hR,ComesIn.of_steps hs₀ hs,hfn,hl⟩
 | exit id=>exact hq.elim
 | goto l=>exact hq.elim
 | outgrown=>exact⟨.outgrown,w',b,hq,harr.resolve_left (by simp[b]),rfl,trivial⟩
def zK0 (P:Program) (l:Nat) (R:Ending→World→Prop):Exit→Act→World→Prop
 | .panic ch,a,w=>a.defers=[]∧R (.panicked ch) w
 | e,a,w=>roundPost P l R e a w
theorem zGK {l:Nat} {f:FuncId} {fn0:Func} {tmps:Array Value} {assign body:Code} {R:Ending→World→Prop} (hf:P.funcs[f]?=some fn0)
  (h:assign.wpIn (Fence.wide.inRound l) n P (Exit.then (fun a₁ w₁=>∃ w₂,(Instr.beginRound l).run P w₁=.ok () w₂∧body.wpIn (Fence.wide.inRound l) n P (zK0 P l R) a₁ w₂) (fun _ _ _=>False))
   {tmps:=tmps,defers:=[]} w) :
  RoundIn Fence.wide n P l f tmps assign body w R:=by
 have hF:Fence.wide.fn f:=trivial;refine⟨hF,fun c cs hr=>?_⟩
 let b:Frame:={(default:Frame) with fn:=f,kind:=.normal,roundOf:=some l}
 have hb0:Frame.round l f tmps assign body .normal=b.atR {tmps:=tmps,defers:=[]} [.code assign,.beginRound,.code body]:=by
  simp[Frame.round,Frame.atR,b]
 have hr':(Fence.wide.inRound l).room ((c::cs).length+1+n):=hr;have hF':(Fence.wide.inRound l).fn b.fn:=hF;obtain⟨e,a₁,w₁,hq,harr⟩:=h b [.beginRound,.code body] (c::cs) rfl hF' hr';rw[← hb0]at harr
 cases e with
 | normal =>
  obtain⟨w₂,hbr,hbody⟩:=hq;have s1:StepsIn (Machine.fenced P (Fence.wide.inRound l)) P (lone (b.atR a₁ [.beginRound,.code body]) (c::cs) w₁) (lone (b.atR a₁ [.code body]) (c::cs) w₂) :=
   .one (fenced_calm (fr:=b.atR a₁ [.beginRound,.code body]) hF' hr' rfl) (stepR_beginRound rfl hbr)
  obtain⟨e₂,a₂,w₃,hq₂,harr₂⟩:=hbody b [] (c::cs) rfl hF' hr'
  cases e₂ with
  | normal =>
   obtain⟨v,w₄,hend,hR⟩:=hq₂;exact⟨.returned v,w₄,hR,(StepsIn.trans harr s1).trans (StepsIn.trans harr₂ (.one (fenced_calm (fr:=b.atR a₂ []) hF' hr' rfl) (stepR_round_end rfl rfl hend)))⟩
  | ret =>
   obtain⟨v,w₄,hend,hR⟩:=hq₂;obtain⟨k₁,hs⟩:=harr₂.2 rfl;exact⟨.returned v,w₄,hR,(StepsIn.trans harr s1).trans (StepsIn.trans hs (.one (fenced_calm (fr:=b.atR a₂ (.code .ret::k₁)) hF' hr' rfl) (stepR_round_ret rfl rfl hend)))⟩
  | exit id =>
   obtain⟨v,w₄,hend,hR⟩:=hq₂;obtain⟨k₁,hk,hs⟩:=harr₂.2 rfl rfl;exact⟨.returned v,w₄,hR,(StepsIn.trans harr s1).trans (StepsIn.trans hs (.one (fenced_calm (fr:=b.atR a₂ (.code (.exit id)::k₁)) hF' hr' rfl) (stepR_round_exit rfl rfl hk hend)))⟩
  | goto t =>
   obtain⟨v,w₄,hend,hR⟩:=hq₂;obtain⟨k₁,hk,hs⟩:=harr₂.2 rfl rfl;exact⟨.returned v,w₄,hR,(StepsIn.trans harr s1).trans (StepsIn.trans hs (.one (fenced_calm (fr:=b.atR a₂ (.code (.goto t)::k₁)) hF' hr' rfl) (stepR_round_goto rfl rfl hk hend)))⟩
  | panic chain =>
   obtain⟨hd,hR⟩:=hq₂;obtain⟨todo,hs⟩:=harr₂;refine⟨.panicked chain,w₃,hR,(StepsIn.trans harr s1).trans (StepsIn.trans hs (.one (fenced_wide _ _) (step_leave_panicked ?_)))⟩;exact⟨rfl,hd,fn0,hf⟩
  | outgrown=>exact hq₂.elim
 | exit id=>exact hq.elim
 | goto t=>exact hq.elim
 | ret=>exact hq.elim
 | panic chain=>exact hq.elim
 | outgrown=>exact hq.elim
theorem zIW {g:Operand} {ps:Array Tmp} {assign body:Code}
  (h:∀ fn,(∃ f,P.funcs[fn]?=some f)→∃ (l:Nat) (mark:List Deferred) (w₁:World) (d:Deferred) (w₁':World) (f:FuncId) (args:Array Value) (w₂:World),
   (Instr.enterLoop fn a.tmps ps assign body none).run P w=.ok (l,mark) w₁ ∧
   (resolve a.eval (rangeCall g l) 0).run P w₁=.ok d w₁' ∧
   (invoke d.target d.args).run P w₁'=.ok (.enter f args) w₂ ∧
   CallsIn Fence.wide n P f args w₂ (rangePost Fence.wide n P l Q {a with defers:=mark++a.defers})) :
  wpR P (Code.rangeFunc g ps assign body) Q a w:=by
 intro b k cs hro hb;have hr:=room_wide;obtain⟨l,mark,w₁,d,w₁',f,args,w₂,he,hres,hinv,hF,hcall⟩:=h b.fn hb;rw[← hro]at he;have h0:(lone (b.atR a (.code (.rangeFunc g ps assign body)::k)) cs w).fenced P Fence.wide:=fenced_wide _ _;have henter:=stepR_rangeFunc (P:=P) (b:=b) (a:=a) (k:=k) (cs:=cs) (w:=w) he hres hinv;obtain⟨e,w₃,fr,hR,hsteps,hfn,hleave⟩:=hcall (b.atR {a with defers:=mark++a.defers} (.inRangeFunc l::k)::cs) (hr _)
 cases e with
 | outgrown =>
  obtain⟨a₀,w₀,hq⟩:=hR;exact⟨.outgrown,a₀,w₀,hq,.inr (Outgrown.of_steps (.one henter) hsteps)⟩
 | returned v =>
  have hl:(lone fr (b.atR {a with defers:=mark++a.defers} (.inRangeFunc l::k)::cs) w₃).fenced P Fence.wide:=fenced_wide _ _
  obtain⟨jump,w₄,hend,hj⟩:=hR;have sback:StepsIn (Machine.fenced P Fence.wide) P (lone (b.atR a (.code (.rangeFunc g ps assign body)::k)) cs w) (lone (b.atR {a with defers:=mark++a.defers} ((jump.map Item.code).toList++k)) cs w₄):=by
   refine .head h0 henter (StepsIn.trans hsteps (.head hl ?_ (.one (fenced_wide _ _) (stepR_endRangeFunc hend))));rw[← finish_atR_inRangeFunc l v];exact step_leave_returned hleave
  cases jump with
  | none=>exact⟨.normal,_,w₄,hj,sback⟩
  | some c =>
   obtain⟨e',a'',w₅,hq,harr⟩:=hj b k cs hro trivial (hr _);exact⟨e',a'',w₅,hq,.of_steps sback harr⟩
 | panicked chain =>
  have hl:(lone fr (b.atR {a with defers:=mark++a.defers} (.inRangeFunc l::k)::cs) w₃).fenced P Fence.wide:=fenced_wide _ _
  refine⟨.panic chain,_,w₃,hR,.inRangeFunc l::k,.head h0 henter (StepsIn.trans hsteps (.one hl ?_))⟩;rw[← Frame.raise_atR];exact step_leave_panicked hleave
end
def zQY (B:Nat) (Y:Option Code→World→Prop) (X:List PanicEntry→World→Prop) (W:World):Exit→Act→World→Prop
 | .normal,_,W'=>KeepsNC B W W'∧Y none W'
 | .ret,_,W'=>KeepsNC B W W'∧Y (some .ret) W'
 | .exit id,_,W'=>KeepsNC B W W'∧Y (some (.exit id)) W'
 | .goto t,_,W'=>KeepsNC B W W'∧Y (some (.goto t)) W'
 | .panic ch,a,W'=>a.defers=[]∧KeepsNC B W W'∧X ch W'
 | .outgrown,_,_=>False
def zQo (Q:Exit→Act→World→Prop) (a:Act) (W:World):Option Code→Prop
 | none=>Q .normal a W
 | some .ret=>Q .ret a W
 | some (.exit id)=>Q (.exit id) a W
 | some (.goto t)=>Q (.goto t) a W
 | _=>False
theorem zLj {σ α:Type} {n:Nat} {P:Program} {g:Operand} {ps:Array Tmp} {assign body:Code} {Q:Exit→Act→World→Prop} {a:Act} {w:World}
  {gf:Nat} {lb:Array Value} (hg:a.eval g=.func (.func gf) #[] lb) (eg:∀ args w,(callFunc gf args).run P w=.ok (.enter gf args) w)
  {encs:α→Array Value} (hps:∀ x,(encs x).size=ps.size)
  (I0:World→Prop) (S:Option Code→World→Prop) (Pn:List PanicEntry→World→Prop) (Yp:σ→α→World→Prop) (Yq:σ→α→Option Code→World→Prop) (Yx:σ→α→List PanicEntry→World→Prop) (Ya:σ→α→Act→World→Prop)
  (st0:Stay w.heap.size I0) (stS:∀ j,Stay w.heap.size (S j)) (stYq:∀ s x j,Stay w.heap.size (Yq s x j)) (stYa:∀ s x a,Stay w.heap.size (Ya s x a))
  (hiter:∀ (l:Nat) (B:Option Code→World→Prop) (K:World→Prop),(∀ j W W',KeepsNC w.heap.size W W'→B j W→B j W')→(∀ W W',KeepsNC w.heap.size W W'→K W→K W')→(∀ j W,B j W→K W) →
   (∀ s x W1,Yp s x W1→B none W1→YieldAt Fence.wide (n - 1) P l (encs x) W1 fun e W'=>(∃ j:Option Code,e=.returned (.bool j.isNone)∧Yq s x j W'∧B j W')∨∃ ch,e=.panicked ch∧Yx s x ch W'∧K W') →
   ∀ W,I0 W→B none W→CallsIn Fence.wide n P gf (#[.func (.yield l) #[] #[]]++lb) W fun e W'=>(∃ v j,e=.returned v∧S j W'∧B j W')∨∃ ch,e=.panicked ch∧Pn ch W'∧K W')
  (h0:I0 w)
  (hassign:∀ (l:Nat) (s:σ) (x:α) (W:World),Yp s x W →
   assign.wpIn (Fence.wide.inRound l) (n - 1) P (Exit.then (fun a1 W1=>KeepsNC w.heap.size W W1∧Ya s x a1 W1) (fun _ _ _=>False)) {tmps:=(ps.zip (encs x)).foldl (fun t (p,v)=>t.setIfInBounds p v) a.tmps,defers:=[]} W)
  (hbody:∀ (l:Nat) (s:σ) (x:α) (a1:Act) (W:World),Ya s x a1 W→body.wpIn (Fence.wide.inRound l) (n - 1) P (zQY w.heap.size (Yq s x) (Yx s x) W) a1 W)
  (hdone:∀ (D:Nat) (j:Option Code) (W:World),w.heap.size≤D→S j W→W.heap[D]?=some (.deferred (some []))→zQo Q {a with defers:={target:=.collected D,args:=#[]}::a.defers} W j)
  (hpan:∀ (D:Nat) (ch:List PanicEntry) (W:World),w.heap.size≤D→Pn ch W→W.heap[D]?=some (.deferred (some []))→Q (.panic ch) {a with defers:={target:=.collected D,args:=#[]}::a.defers} W) :
  wpR P (Code.rangeFunc g ps assign body) Q a w:=by
 refine zIW (n:=n) ?_
 intro fn hfn;obtain⟨fn0,hfn⟩:=hfn;obtain⟨rec,hrec⟩:∃ rec:LoopState→Option Code→Loop,rec=fun st pe=>{state:=st,pending:=pe,fn,tmps:=a.tmps,params:=ps,assign,body,defers:=w.heap.size}:=⟨_,rfl⟩
 obtain⟨W1,hW1⟩:∃ W1,(w.alloc (.deferred (some []))).alloc (.loop (rec .ready none))=W1:=⟨_,rfl⟩;have hL1:W1.heap[w.heap.size+1]?=some (.loop (rec .ready none)):=by
  rw[← hW1];have:=World.alloc_heap_new (w.alloc (.deferred (some []))) (.loop (rec .ready none));rwa [World.size_alloc]at this
 have hK1:W1.heap[w.heap.size]?=some (.deferred (some [])):=by
  rw[← hW1];exact(Below.heap_alloc _ _ _ (by simp)).trans (World.alloc_heap_new w _)
 have hI1:I0 W1:=by rw[← hW1];exact st0.alloc _ (st0.alloc _ h0)
 refine⟨w.heap.size+1,[{target:=.collected w.heap.size,args:=#[]}],W1,{target:=.fn (.func gf) lb,args:=#[.func (.yield (w.heap.size+1)) #[] #[]]},W1,gf,
  #[.func (.yield (w.heap.size+1)) #[] #[]]++lb,W1,?_,?_,?_,?_⟩
 ·rw[← hW1,hrec];exact run_enterLoop_outer _ _ _ _ _
 ·simp only[resolve,hg];simp[go_sem]
 ·simp[invoke,go_sem,eg]
 ·refine(hiter (w.heap.size+1) (fun j W=>W.heap[w.heap.size+1]?=some (.loop (rec (if j.isNone then .ready else .done) j))∧W.heap[w.heap.size]?=some (.deferred (some []))) (fun W=>W.heap[w.heap.size]?=some (.deferred (some [])))
   (fun j W W' hk hB=>⟨hk.same _ _ (by omega) hB.1 rfl,hk.same _ _ (Nat.le_refl _) hB.2 rfl⟩) (fun W W' hk hB=>hk.same _ _ (Nat.le_refl _) hB rfl) (fun j W hB=>hB.2) ?_ W1 hI1 ⟨hL1,hK1⟩).mono ?_
  ·rintro s x W hy ⟨hl,hk⟩;have hl:W.heap[w.heap.size+1]?=some (.loop (rec .ready none)):=hl;have hlt:w.heap.size+1<W.heap.size:=(Array.getElem?_eq_some_iff.1 hl).1;have hyr:=run_yield (P:=P) (args:=encs x) hl (by rw[hrec];exact hps x)
   rw[hrec]at hyr;refine⟨fn,_,assign,body,hyr,zGK hfn (wpIn_mono (hassign (w.heap.size+1) s x W hy) ?_)⟩;rintro e a1 Wa hp
   cases e with
   | normal =>
    obtain⟨hka,hya⟩:=hp;have hla:=hka.same _ _ (by omega) hl rfl
    have hda:=hka.same _ _ (Nat.le_refl _) hk rfl;refine⟨_,run_beginRound hla (by rw[hrec]),?_⟩
    have hlt2:w.heap.size+1<Wa.heap.size:=(Array.getElem?_eq_some_iff.1 hla).1;have hl2:(Wa.putObj (w.heap.size+1) (.loop {rec .ready none with state:=.busy})).heap[w.heap.size+1]?=some (.loop {rec .ready none with state:=.busy}):=World.putObj_heap_same hlt2
    have hk2:(Wa.putObj (w.heap.size+1) (.loop {rec .ready none with state:=.busy})).heap[w.heap.size]?=some (.deferred (some [])):=(World.putObj_heap_other (by omega)).trans hda
    refine wpIn_mono (hbody _ s x a1 _ ((stYa s x a1).putObj _ hya (by omega) hla rfl)) ?_
    have key:∀ (j:Option Code) (W3:World),KeepsNC w.heap.size (Wa.putObj (w.heap.size+1) (.loop {rec .ready none with state:=.busy})) W3→Yq s x j W3→∃ v w',(Instr.endRound (w.heap.size+1) j).run P W3=.ok v w'∧((∃ j:Option Code,Ending.returned v=.returned (.bool j.isNone)∧Yq s x j w'∧w'.heap[w.heap.size+1]?=some (.loop (rec (if j.isNone then .ready else .done) j))∧w'.heap[w.heap.size]?=some (.deferred (some [])))∨∃ ch,Ending.returned v=.panicked ch∧Yx s x ch w'∧w'.heap[w.heap.size]?=some (.deferred (some []))):=by
     intro j W3 hk3 hq3;have hl3:=hk3.same _ _ (by omega) hl2 rfl
     have hd3:=hk3.same _ _ (Nat.le_refl _) hk2 rfl;have hre:=run_endRound (P:=P) j hl3;refine⟨_,_,hre,.inl ⟨j,rfl,(stYq s x j).putObj _ hq3 (by omega) hl3 rfl,?_,(World.putObj_heap_other (by omega)).trans hd3⟩⟩
     rw[World.putObj_heap_same (Array.getElem?_eq_some_iff.1 hl3).1,hrec]
    rintro e a3 W3 hp
    cases e with
    | normal=>exact key none W3 hp.1 hp.2
    | ret=>exact key (some .ret) W3 hp.1 hp.2
    | exit id=>exact key (some (.exit id)) W3 hp.1 hp.2
    | goto t=>exact key (some (.goto t)) W3 hp.1 hp.2
    | panic ch=>exact⟨hp.1,.inr ⟨ch,rfl,hp.2.2,hp.2.1.same _ _ (Nat.le_refl _) hk2 rfl⟩⟩
    | outgrown=>exact hp.elim
   | ret=>exact hp.elim
   | exit id=>exact hp.elim
   | goto t=>exact hp.elim
   | panic ch=>exact hp.elim
   | outgrown=>exact hp.elim
  ·rintro e W2 (⟨v,j,rfl,hS,hl,hk⟩|⟨ch,rfl,hP,hk⟩)
   ·have hd:=hdone w.heap.size j _ (Nat.le_refl _) ((stS j).putObj (.loop {rec (if j.isNone then .ready else .done) j with state:=.exhausted}) hS (by omega) hl rfl) ((World.putObj_heap_other (by omega)).trans hk)
    have hend:=run_endLoop (P:=P) hl (by rw[hrec];cases j<;>simp)
    subst hrec;refine⟨j,_,hend,?_⟩
    cases j with
    | none=>exact hd
    | some c =>
     cases c with
     | ret=>exact wpIn_ret hd
     | exit id=>exact wpIn_exit hd
     | goto t=>exact wpIn_goto hd
     | _=>exact hd.elim
   ·exact hpan _ ch _ (Nat.le_refl _) hP hk
structure Agree (L L':Str) (m:Nat):Prop where
 one:m≤L.length
 two:m≤L'.length
 same:L.take m=L'.take m
theorem Agree.symm {L L':Str} {m:Nat} (h:Agree L L' m):Agree L' L m:=⟨h.two,h.one,h.same.symm⟩
theorem Agree.le {L L':Str} {m n:Nat} (h:Agree L L' m) (hn:n≤m):Agree L L' n:=by
 refine⟨by have:=h.one;omega,by have:=h.two;omega,?_⟩
 have:=congrArg (List.take n) h.same
 rwa [List.take_take,List.take_take,Nat.min_eq_left hn]at this
theorem Agree.byt {L L':Str} {m k:Nat} (h:Agree L L' m) (hk:k<m):byt L' k=byt L k:=by
 have h1:=h.one;have h2:=h.two;rw[zEI (by omega),zEI (by omega)]
 have e:(L.take m)[k]'(by simp;omega)=(L'.take m)[k]'(by simp;omega):=by simp only[h.same]
 simp only[List.getElem_take]at e;rw[e]
theorem Agree.at {L L' t:Str} {m i:Nat} (h:Agree L L' m) (hk:i+t.length≤m):atP L' i t=atP L i t:=by
 have h1:=h.one;have h2:=h.two;rw[← zO5 (by omega),← zO5 (by omega),(h.le hk).same]
theorem Agree.seg {L L':Str} {m i k:Nat} (h:Agree L L' m) (hk:k≤m):(L'.drop i).take (k - i)=(L.drop i).take (k - i):=by
 rw[← List.drop_take,← List.drop_take,(h.le hk).same]
theorem zHo {L L':Str} {i b e:Nat} (h:escP L i=some (b,e)) (A:Agree L L' e):escP L' i=some (b,e):=by
 have hl:=zF0 h;have h2:=A.two;unfold escP at h ⊢;rw[A.byt (k:=i+1) (by omega)]
 rw[if_pos (by omega)]at h ⊢
 cases hp:zF8 (byt L (i+1)) with
 | some x=>rw[hp]at h;exact h
 | none =>
  rw[hp]at h;simp only[]at h ⊢
  by_cases hx:byt L (i+1)=120
  ·rw[if_pos hx]at h ⊢;split at h
   ·split at h
    ·cases h
    ·rename_i x hx2;split at h
     ·split at h
      ·cases h
      ·rename_i y hy2
       cases h
       rw[if_pos (by omega),A.byt (k:=i+2) (by omega),hx2]
       simp only[];rw[if_pos (by omega),A.byt (k:=i+3) (by omega),hy2]
     ·cases h
   ·cases h
  ·rw[if_neg hx]at h ⊢;exact h
theorem zDq {L L':Str} {i b e:Nat} (h:zCZ L i=some (b,e)) (A:Agree L L' e):zCZ L' i=some (b,e):=by
 have hl:=zB0 h;have h2:=A.two;unfold zCZ at h ⊢;rw[A.byt (k:=i) (by omega)]
 rw[if_pos (by omega)]at h ⊢
 split at h
 ·rename_i hc;rw[if_pos hc];exact zHo h A
 ·rename_i hc;rw[if_neg hc];exact h
def NoB (L:Str):Prop:=∀ k,atP L k [91,58]=false
theorem zOE {L:Str} (h:NoB L) (i:Nat):zFU L i=none:=by
 unfold zFU;rw[h];rfl
theorem zJu {L L':Str} {i e m:Nat} {s:Nat→Nat} (hB:NoB L) (h:zFW L i=some (s,e)) (A:Agree L L' m) (hm:e+1≤m) (hq:byt L e=93∨e+2≤m):zFW L' i=some (s,e):=by
 have hl:=zDm h;have h1:=A.one;have h2:=A.two;have hn:zFU L' i=none:=by unfold zFU;rw[A.at (by simp;omega),hB];rfl
 unfold zFW at h ⊢;rw[zOE hB]at h;rw[hn];simp only[]at h ⊢;rw[A.byt (k:=i) (by omega)]
 by_cases hc:byt L i=92
 ·have hlong:i+1<L.length:=by
   by_cases hlt:i+1<L.length
   ·exact hlt
   ·exfalso
    rw[if_neg (by omega)]at h
    simp only[zCn]at h;have ht:zCZ L i=none:=by
     unfold zCZ;split
     ·(try rw[if_pos hc]);unfold escP;rw[if_neg hlt]
     ·rfl
    rw[ht]at h;cases h
  have hb:i+2≤e:=by
   rw[if_pos ⟨hc,hlong⟩]at h;split at h
   ·cases h;omega
   ·unfold zCn at h;split at h
    ·cases h
    ·rename_i lo k ht;have hk:i+2≤k:=by
      unfold zCZ at ht;rw[if_pos (by omega),if_pos hc]at ht
      exact(zF0 ht).1
     split at h
     ·split at h
      ·cases h
      ·rename_i hi e' ht2;have h2:=zB0 ht2;split at h
       ·cases h;omega
       ·cases h
     ·cases h;omega
  rw[A.byt (k:=i+1) (by omega)]
  rw[if_pos ⟨hc,hlong⟩]at h;rw[if_pos ⟨hc,by omega⟩]
  cases hs:zEj (byt L (i+1)) with
  | some x=>rw[hs]at h;exact h
  | none =>
   rw[hs]at h;simp only[]at h ⊢;unfold zCn at h ⊢;split at h
   ·cases h
   ·rename_i lo k ht;have hkl:=zB0 ht;have hke:k≤e:=by
     split at h
     ·split at h
      ·cases h
      ·rename_i hi e' ht2;have h2:=zB0 ht2;split at h
       ·cases h;omega
       ·cases h
     ·cases h;omega
    rw[zDq ht (A.le (by omega))]
    simp only[];split at h
    ·rename_i hr;split at h
     ·cases h
     ·rename_i hi e' ht2;have h3:=zB0 ht2;split at h
      ·rename_i hle
       cases h
       rw[if_pos ⟨by omega,by rw[A.byt (k:=k) (by omega)];exact hr.2.1,by rw[A.byt (k:=k+1) (by omega)];exact hr.2.2⟩,zDq ht2 (A.le (by omega))]
       simp only[];rw[if_pos hle]
      ·cases h
    ·rename_i hr;simp only[Option.some.injEq,Prod.mk.injEq]at h;obtain⟨h8,h9⟩:=h;rw[if_neg ?_,h8,h9];rintro⟨r1,r2,r3⟩;rw[A.byt (k:=k) (by omega)]at r2
     rcases hq with hq|hq
     ·subst h9;omega
     ·rw[A.byt (k:=k+1) (by omega)]at r3
      exact hr ⟨by omega,r2,r3⟩
 ·rw[if_neg (fun x=>hc x.1)]at h ⊢
  simp only[]at h ⊢;unfold zCn at h ⊢;split at h
  ·cases h
  ·rename_i lo k ht;have hkl:=zB0 ht;have hke:k≤e:=by
    split at h
    ·split at h
     ·cases h
     ·rename_i hi e' ht2;have h2:=zB0 ht2;split at h
      ·cases h;omega
      ·cases h
    ·cases h;omega
   rw[zDq ht (A.le (by omega))]
   simp only[];split at h
   ·rename_i hr;split at h
    ·cases h
    ·rename_i hi e' ht2;have h3:=zB0 ht2;split at h
     ·rename_i hle
      cases h
      rw[if_pos ⟨by omega,by rw[A.byt (k:=k) (by omega)];exact hr.2.1,by rw[A.byt (k:=k+1) (by omega)];exact hr.2.2⟩,zDq ht2 (A.le (by omega))]
      simp only[];rw[if_pos hle]
     ·cases h
   ·rename_i hr;simp only[Option.some.injEq,Prod.mk.injEq]at h;obtain⟨h8,h9⟩:=h;rw[if_neg ?_,h8,h9];rintro⟨r1,r2,r3⟩;rw[A.byt (k:=k) (by omega)]at r2
    rcases hq with hq|hq
    ·subst h9;omega
    ·rw[A.byt (k:=k+1) (by omega)]at r3
     exact hr ⟨by omega,r2,r3⟩
theorem zKl {L:Str} {k c:Nat} (h:atP L k [UInt8.ofNat c]=true) (hc:c<256):k<L.length∧byt L k=c:=by
 have hl:=zCp h (by simp)
 simp at hl;rw[← zO5 (by simpa using hl)]at h
 have h2:=beq_iff_eq.1 h;have hlt:k<L.length:=by omega
 refine⟨hlt,?_⟩
 have e:(L.take (k+1)).drop k=[L[k]]:=by
  rw[List.drop_take,List.drop_eq_getElem_cons hlt,show k+1 - k=1 from by omega]
  rfl
 simp only[List.length_cons,List.length_nil]at h2;rw[e]at h2;rw[zEI hlt];injection h2 with h3
 rw[h3];simp[hc]
theorem zFc {L L':Str} (hB:NoB L):∀ (f k f':Nat) (b:Bool) (S S':Nat→Nat) (j:Nat),k≤L.length→zBA L f k b S=some (S',j)→Agree L L' j→j - k≤f'→zBA L' f' k b S=some (S',j)
 | 0,_,_,_,_,_,_,_,h,_,_=>by cases h
 | f+1,k,f',b,S,S',j,hk,h,A,hf=>by
  have hj:=zCV _ _ _ _ _ _ hk h;obtain⟨f',rfl⟩:∃ g,f'=g+1:=⟨f' - 1,by omega⟩
  rw[zBA]at h ⊢;rw[A.at (by simp;omega)]
  split at h
  ·rename_i hc;rw[if_pos hc];exact h
  ·rename_i hc;rw[if_neg hc];split at h
   ·cases h
   ·rename_i t e hi;have h1:=zDm hi;have h2:=zCV _ _ _ _ _ _ h1.2.1 h;have hq:byt L e=93∨e+2≤j:=by
     cases f with
     | zero=>cases h
     | succ f =>
      rw[zBA]at h;split at h
      ·rename_i hc2;exact .inl (zKl (c:=93) hc2.2 (by omega)).2
      ·split at h
       ·cases h
       ·rename_i t2 e2 hi2;have h3:=zDm hi2;have h4:=zCV _ _ _ _ _ _ h3.2.1 h;exact .inr (by omega)
    rw[zJu hB hi A (by omega) hq]
    exact zFc hB f e f' false _ S' j h1.2.1 h A (by omega)
theorem zIq {L L':Str} {i j:Nat} {d:WordD} (hB:NoB L) (hi:i<L.length) (h:zB3 L i=some (d,j)) (A:Agree L L' j):zB3 L' i=some (d,j):=by
 have hl:=zJF hi h;have h1:=A.two;unfold zB3 at h ⊢;obtain⟨⟨S,e'⟩,h3,h2⟩:=Option.map_eq_some_iff.1 h;simp only[Prod.mk.injEq]at h2;obtain⟨h4,rfl⟩:=h2;have hj:i+2≤e':=by
  split at h3
  ·rename_i ha;have:=zCp ha (by simp)
   simp at this;have:=zCV _ _ _ _ _ _ (by omega) h3
   omega
  ·have:=zCV _ _ _ _ _ _ (by omega) h3
   omega
 rw[A.at (t:=[94]) (by simp;omega)]
 simp only[];rw[zFc hB _ _ _ _ _ _ _ ?_ h3 A (by split<;>omega)]
 ·rw[← h4];rfl
 ·split
  ·rename_i ha;have:=zCp ha (by simp)
   simp at this;omega
  ·omega
theorem zCm {L L':Str}:∀ (f k f':Nat) (a b:Bool) (d d':WordD) (j:Nat),zAS L f k a b d=some (d',j)→Agree L L' j→j - k≤f'→zAS L' f' k a b d=some (d',j)
 | 0,_,_,_,_,_,_,_,h,_,_=>by cases h
 | f+1,k,f',a,b,d,d',j,h,A,hf=>by
  have hj:=zC2 _ _ _ _ _ _ _ h;obtain⟨f',rfl⟩:∃ g,f'=g+1:=⟨f' - 1,by omega⟩
  have h2:=A.two;rw[zAS]at h ⊢;rw[if_pos (by omega)]at h ⊢
  rw[A.byt (k:=k) (by omega)]
  simp only[]at h ⊢;split at h
  ·rename_i hc;rw[if_pos hc];exact zCm f _ f' _ _ _ _ _ h A (by omega)
  ·rename_i hc;rw[if_neg hc];split at h
   ·rename_i hc;rw[if_pos hc];exact zCm f _ f' _ _ _ _ _ h A (by omega)
   ·rename_i hc;rw[if_neg hc];split at h
    ·rename_i hc;rw[if_pos hc];exact zCm f _ f' _ _ _ _ _ h A (by omega)
    ·rename_i hc;rw[if_neg hc];split at h
     ·rename_i hc;rw[if_pos hc];split at h
      ·cases h
      ·rename_i hc;rw[if_neg hc];exact zCm f _ f' _ _ _ _ _ h A (by omega)
     ·rename_i hc;rw[if_neg hc];exact h
theorem zJH {L L':Str} {i j:Nat} {d:WordD} (h:zBR L i=some (d,j)) (A:Agree L L' j):zBR L' i=some (d,j):=by
 have h2:=A.two;exact zCm _ _ _ _ _ _ _ _ h A (by omega)
theorem zGY {L:Str} {k:Nat} (h:k<L.length):zAv L[k]=digB (byt L k):=by
 rw[zEI h];rfl
theorem zFA {p:UInt8→Bool}:∀ (l:Str) (h:(l.takeWhile p).length<l.length),p l[(l.takeWhile p).length]=false
 | [],h=>by simp at h
 | c::l,h=>by
  by_cases hc:p c=true
  ·simp only[List.takeWhile_cons,hc,if_true,List.length_cons]at h ⊢
   simpa using zFA l (by omega)
  ·simp[hc]
theorem zFF {L:Str} {i n k:Nat} (hi:i≤L.length) (h:zBr L i=some (n,k)) :
  ((L.drop i).take (k - i)).all zAv=true∧(k<L.length→digB (byt L k)=false)∧n=numF ((L.drop i).take (k - i))∧¬ (i+1<k∧byt L i=48):=by
 have hl:=zBk h hi;unfold zBr at h;simp only[]at h;split at h
 ·cases h
 ·rename_i hc;simp only[Option.some.injEq,Prod.mk.injEq]at h;obtain⟨rfl,rfl⟩:=h;have e:(L.drop i).take (i+((L.drop i).takeWhile zAv).length - i)=(L.drop i).takeWhile zAv:=by
   rw[show i+((L.drop i).takeWhile zAv).length - i=((L.drop i).takeWhile zAv).length from by omega]
   exact(List.prefix_iff_eq_take.1 (List.takeWhile_prefix _)).symm
  rw[e];refine⟨by simp[List.all_takeWhile],?_,rfl,?_⟩
  ·intro hlt;have:=zFA (p:=zAv) (L.drop i) (by simp;omega)
   simp only[List.getElem_drop]at this;rw[zGY (by omega)]at this
   exact this
  ·rintro⟨h1,h2⟩;exact hc (.inr ⟨by omega,h2⟩)
theorem zDP {L L':Str} {i n k m:Nat} (h:zBr L i=some (n,k)) (A:Agree L L' m) (hi:i≤L.length) (hk:k<m):zBr L' i=some (n,k):=by
 have hl:=zBk h hi;have h1:=A.one;have h2:=A.two;obtain⟨a,b,c,d⟩:=zFF hi h;rw[zKy (k:=k) (by omega) (by omega) (by rw[A.seg (by omega)];exact a) (fun _=>by rw[A.byt hk];exact b (by omega)),A.seg (by omega),A.byt (k:=i) (by omega),if_neg (by rintro(x|x);omega;exact d x),← c]
theorem zFQ {L L':Str} {i lo j:Nat} {hi:Int} (hi2:i<L.length) (h:zBN L i=some (lo,hi,j)) (A:Agree L L' j):zBN L' i=some (lo,hi,j):=by
 unfold zBN at h ⊢;split at h
 ·cases h
 ·rename_i n k hn;have h1:=zBk hn (by omega)
  split at h
  ·rename_i ha;have:=zCp ha (by simp)
   simp at this
   cases h
   rw[zDP hn A (by omega) (by omega)]
   simp only[];rw[A.at (by simp),if_pos ha]
  ·rename_i ha;split at h
   ·rename_i ha2;have h2:=zCp ha2 (by simp)
    simp at h2;split at h
    ·cases h
    ·rename_i m e' hm;have h3:=zBk hm (by omega)
     split at h
     ·rename_i hb;have h4:=zCp hb (by simp)
      simp at h4
      cases h
      rw[zDP hn A (by omega) (by omega)]
      simp only[];rw[A.at (t:=[44,125]) (by simp;omega),if_neg ha,A.at (t:=[44]) (by simp;omega),if_pos ha2,zDP hm A (by omega) (by omega)]
      simp only[];rw[A.at (t:=[125]) (by simp),if_pos hb]
     ·cases h
   ·rename_i ha2;split at h
    ·rename_i hb;have h4:=zCp hb (by simp)
     simp at h4;have e0:atP L' k [44,125]=false:=by
      rw[Bool.eq_false_iff];intro hc;have h5:=zCp hc (by simp)
      simp at h5;have:atP L' k [44]=true:=by
       unfold atP at hc ⊢;rw[List.isPrefixOf_iff_prefix]at hc ⊢;exact List.IsPrefix.trans ⟨[125],rfl⟩ hc
      cases h
      rw[A.at (by simp)]at this
      exact ha2 this
     cases h
     rw[zDP hn A (by omega) (by omega)]
     simp only[];rw[e0];simp only[Bool.false_eq_true,if_false];rw[A.at (t:=[44]) (by simp),if_neg ha2,A.at (t:=[125]) (by simp),if_pos hb]
    ·cases h
def zKi (c:Nat):Bool:=digB c || c == 44 || c == 125
theorem zKQ {L:Str} {i k p:Nat} (h:((L.drop i).take (k - i)).all zAv=true) (h1:i≤p) (h2:p<k) (h3:k≤L.length):digB (byt L p)=true:=by
 rw[← zGY (by omega)]
 have hm:((L.drop i).take (k - i))[p - i]'(by simp;omega)=L[p]:=by
  simp only[List.getElem_take,List.getElem_drop];simp only[show i+(p - i)=p from by omega]
 rw[← hm];exact List.all_eq_true.1 h _ (List.getElem_mem _)
theorem zQI {L:Str} {k c d:Nat} (h:atP L k [UInt8.ofNat c,UInt8.ofNat d]=true) (hc:c<256) (hd:d<256):byt L k=c∧byt L (k+1)=d:=by
 have hl:=zCp h (by simp)
 simp at hl;have e:L.drop k=L[k]::L[k+1]::L.drop (k+2):=by rw[List.drop_eq_getElem_cons (by omega),List.drop_eq_getElem_cons (i:=k+1) (by omega)]
 unfold atP at h;rw[e]at h;simp only[List.isPrefixOf,Bool.and_eq_true,beq_iff_eq]at h;rw[zEI (by omega),zEI (by omega),← h.1,← h.2.1]
 simp[hc,hd]
theorem zIR {L:Str} {i lo j:Nat} {hi:Int} (hi2:i<L.length) (h:zBN L i=some (lo,hi,j)):∀ p,i<p→p<j→zKi (byt L p)=true:=by
 unfold zBN at h;split at h
 ·cases h
 ·rename_i n k hn;have h1:=zBk hn (by omega)
  have o1:=(zFF (by omega) hn).1
  intro p hp hj
  by_cases hpk:p<k
  ·unfold zKi;rw[zKQ o1 (by omega) hpk (by omega)];rfl
  ·split at h
   ·rename_i ha
    cases h
    have:=zQI (c:=44) (d:=125) ha (by omega) (by omega)
    rcases(show p=k∨p=k+1 by omega) with rfl|rfl
    ·rw[this.1];rfl
    ·rw[this.2];rfl
   ·split at h
    ·rename_i ha2;have h2:=zKl (c:=44) ha2 (by omega)
     split at h
     ·cases h
     ·rename_i m e' hm;have h3:=zBk hm (by omega)
      have o2:=(zFF (by omega) hm).1
      split at h
      ·rename_i hb;have h4:=zKl (c:=125) hb (by omega)
       cases h
       rcases(show p=k∨(k+1≤p∧p<e')∨p=e' by omega) with rfl|hx|rfl
       ·rw[h2.2];rfl
       ·unfold zKi;rw[zKQ o2 hx.1 hx.2 (by omega)];rfl
       ·rw[h4.2];rfl
      ·cases h
    ·split at h
     ·rename_i hb;have h4:=zKl (c:=125) hb (by omega)
      cases h
      rcases(show p=k by omega) with rfl
      rw[h4.2];rfl
     ·cases h
theorem zDQ {L L':Str} {i e j:Nat} {lo hi:Int} {d:WordD} (he:e≤L.length) (h:zAk L i lo hi e=.ok (d,j)) (A:Agree L L' j) (hq:atP L' j [63]=true→atP L j [63]=true):zAk L' i lo hi e=.ok (d,j):=by
 unfold zAk at h ⊢;split at h
 ·cases h
 ·rename_i hc;rw[if_neg hc];split at h
  ·rename_i ha;have:=zCp ha (by simp)
   simp at this
   cases h
   rw[A.at (by simp),if_pos ha]
  ·rename_i ha
   cases h
   rw[if_neg (fun x=>ha (hq x))]
theorem zJC {L L':Str} {i j:Nat} {d:WordD} (hi:i<L.length) (hc:byt L i=92) (h:zBi L i=some (d,j)) (A:Agree L L' j):zBi L' i=some (d,j):=by
 have hl:=zJI h;have h1:=A.one;have h2:=A.two;unfold zBi at h ⊢
 by_cases hlt:i+1<L.length
 ·have hj:i+2≤j:=by
   rw[if_pos hlt,if_pos hlt]at h;split at h
   ·cases h;omega
   ·split at h
    ·cases h;omega
    ·obtain⟨⟨b,e'⟩,h3,h4⟩:=Option.map_eq_some_iff.1 h
     cases h4
     exact(zF0 h3).1
  rw[if_pos hlt,if_pos hlt]at h;rw[if_pos (by omega),if_pos (by omega),A.byt (k:=i+1) (by omega)]
  split at h
  ·rename_i s hs;exact h
  ·rename_i hs;split at h
   ·exact h
   ·obtain⟨⟨b,e'⟩,h3,h4⟩:=Option.map_eq_some_iff.1 h
    cases h4
    rw[zHo h3 A];rfl
 ·exfalso
  rw[if_neg hlt,if_neg hlt]at h;simp only[]at h;obtain⟨⟨b,e'⟩,h3,h4⟩:=Option.map_eq_some_iff.1 h;unfold escP at h3;rw[if_neg hlt]at h3
  cases h3
theorem zJr {L L':Str} {i j:Nat} {d:WordD} (hB:NoB L) (hi:i<L.length) (h:zBK L i=.ok (d,j)) (A:Agree L L' j) (hq:atP L' j [63]=true→atP L j [63]=true)
  (hb:zBN L i=none→zBN L' i=none):zBK L' i=.ok (d,j):=by
 have hl:=zDs hi h;have h1:=A.one;have h2:=A.two;unfold zBK at h ⊢;rw[A.byt (k:=i) (by omega)]
 simp only[]at h ⊢;split at h
 ·rename_i hc;rw[if_pos hc,zJC hi hc (zDR h) A];rfl
 ·rename_i hc;rw[if_neg hc];split at h
  ·rename_i hc;rw[if_pos hc,zIq hB hi (zDR h) A];rfl
  ·rename_i hc;rw[if_neg hc];split at h
   ·rename_i hc;rw[if_pos hc];split at h
    ·rename_i ha;have hf:=zDR h;have:=zC2 _ _ _ _ _ _ _ hf;rw[A.at (by simp;omega),if_pos ha,zJH hf A];rfl
    ·rename_i ha
     cases h
     rw[if_neg (fun x=>ha (hq x))]
   ·rename_i hc;rw[if_neg hc];split at h
    ·rename_i hc;rw[if_pos hc]
     cases hbr:zBN L i with
     | some x =>
      obtain⟨lo,hi',e⟩:=x;rw[hbr]at h;simp only[]at h;have he:=zE1 hbr hi;have he2:=zD5 he.2 h;rw[zFQ hi hbr (A.le he2.1)];exact zDQ he.2 h A hq
     | none =>
      rw[hbr]at h;rw[hb hbr];exact h
    ·rename_i hc;rw[if_neg hc];split at h
     ·rename_i hc;rw[if_pos hc];exact zDQ (by omega) h A hq
     ·rename_i hc;rw[if_neg hc];split at h
      ·rename_i hc;rw[if_pos hc];exact zDQ (by omega) h A hq
      ·rename_i hc;rw[if_neg hc];split at h
       ·rename_i hc;rw[if_pos hc];exact zDQ (by omega) h A hq
       ·rename_i hc;rw[if_neg hc];exact h
section
variable (A B:Str)
theorem zFV (i:Nat):byt (A++B) (A.length+i)=byt B i:=by
 unfold byt;rw[List.getD_eq_getElem?_getD,List.getD_eq_getElem?_getD,List.getElem?_append_right (by omega),Nat.add_sub_cancel_left]
theorem zJp (i:Nat):(A++B).drop (A.length+i)=B.drop i:=by
 rw[List.drop_append,List.drop_of_length_le (by omega),List.nil_append,Nat.add_sub_cancel_left]
theorem zIC (i:Nat) (t:Str):atP (A++B) (A.length+i) t=atP B i t:=by unfold atP;rw[zJp]
theorem zLY (i:Nat):(A.length+i<(A++B).length)=(i<B.length):=by simp
def shO {α:Type} (n:Nat) (o:Option (α × Nat)):Option (α × Nat):=o.map (fun p=>(p.1,n+p.2))
def shD (n:Nat) (d:WordD):WordD:={d with place:=n+d.place}
def shW (n:Nat) (p:WordD × Nat):WordD × Nat:=(shD n p.1,n+p.2)
theorem zGQ {α:Type} (n:Nat) (a:α) (k:Nat):shO n (some (a,k))=some (a,n+k):=rfl
theorem zMb (i:Nat):escP (A++B) (A.length+i)=shO A.length (escP B i):=by
 unfold escP;simp only[Nat.add_assoc,zLY,zFV]
 by_cases h1:i+1<B.length
 ·rw[if_pos h1,if_pos h1]
  cases zF8 (byt B (i+1)) with
  | some b=>rfl
  | none =>
   simp only[]
   by_cases hx:byt B (i+1)=120
   ·rw[if_pos hx,if_pos hx]
    by_cases h2:i+2<B.length
    ·rw[if_pos h2,if_pos h2]
     cases hexP (byt B (i+2)) with
     | none=>rfl
     | some h =>
      simp only[]
      by_cases h3:i+3<B.length
      ·rw[if_pos h3,if_pos h3]
       cases hexP (byt B (i+3))<;>rfl
      ·rw[if_neg h3,if_neg h3];rfl
    ·rw[if_neg h2,if_neg h2];rfl
   ·rw[if_neg hx,if_neg hx]
    by_cases h2:128≤byt B (i+1)
    ·rw[if_pos h2,if_pos h2];rfl
    ·rw[if_neg h2,if_neg h2]
     by_cases h3:hasB zB4 (byt B (i+1))=true
     ·rw[if_pos h3,if_pos h3];rfl
     ·rw[if_neg h3,if_neg h3];rfl
 ·rw[if_neg h1,if_neg h1];rfl
theorem zIp (i:Nat):zCZ (A++B) (A.length+i)=shO A.length (zCZ B i):=by
 unfold zCZ;simp only[Nat.add_assoc,zLY,zFV,zMb]
 by_cases h1:i<B.length
 ·rw[if_pos h1,if_pos h1]
  by_cases hx:byt B i=92
  ·rw[if_pos hx,if_pos hx]
  ·rw[if_neg hx,if_neg hx];rfl
 ·rw[if_neg h1,if_neg h1];rfl
theorem zNT (i:Nat):zFU (A++B) (A.length+i)=(zFU B i).map (shO A.length):=by
 unfold zFU;simp only[Nat.add_assoc,zIC,zJp]
 by_cases h1:atP B i [91,58]=true
 ·rw[if_pos h1,if_pos h1]
  cases zFu [58,93] (List.drop (i+2) B) with
  | none=>rfl
  | some k =>
   simp only[]
   cases zFB (if atP (List.take k (List.drop (i+2) B)) 0 [94]=true then List.drop 1 (List.take k (List.drop (i+2) B)) else List.take k (List.drop (i+2) B)) with
   | none=>rfl
   | some s=>rfl
 ·rw[if_neg h1,if_neg h1];rfl
theorem zJg (i:Nat):zCn (A++B) (A.length+i)=shO A.length (zCn B i):=by
 unfold zCn;rw[zIp]
 cases zCZ B i with
 | none=>rfl
 | some p =>
  obtain⟨lo,k⟩:=p;rw[zGQ];simp only[Nat.add_assoc,zLY,zFV,zIp]
  by_cases h1:k+1<B.length∧byt B k=45∧byt B (k+1)≠93
  ·rw[if_pos h1,if_pos h1]
   cases zCZ B (k+1) with
   | none=>rfl
   | some q =>
    obtain⟨hi,e⟩:=q;rw[zGQ];simp only[]
    by_cases h2:lo≤hi
    ·rw[if_pos h2,if_pos h2];rfl
    ·rw[if_neg h2,if_neg h2];rfl
  ·rw[if_neg h1,if_neg h1];rfl
theorem zNl (i:Nat):zFW (A++B) (A.length+i)=shO A.length (zFW B i):=by
 unfold zFW;rw[zNT]
 cases zFU B i with
 | some r=>rfl
 | none =>
  simp only[Option.map_none,Nat.add_assoc,zLY,zFV,zJg]
  cases (if byt B i=92∧i+1<B.length then zEj (byt B (i+1)) else none) with
  | none=>rfl
  | some s=>rfl
theorem zFj:∀ (f k:Nat) (b:Bool) (S:Nat→Nat),zBA (A++B) f (A.length+k) b S=shO A.length (zBA B f k b S)
 | 0,_,_,_=>rfl
 | f+1,k,b,S=>by
  rw[zBA,zBA];simp only[Nat.add_assoc,zIC,zNl]
  by_cases h1:b=false∧atP B k [93]=true
  ·rw[if_pos h1,if_pos h1];rfl
  ·rw[if_neg h1,if_neg h1]
   cases zFW B k with
   | none=>rfl
   | some p=>obtain⟨t,e⟩:=p;exact zFj f e false _
theorem zF2 {L:Str} {f k:Nat} {b:Bool} {S:Nat→Nat} (hk:k≤L.length) (hf:L.length - k≤f):∀ {f':Nat},L.length - k≤f'→zBA L f k b S=zBA L f' k b S:=by
 have one:∀ (f f' k:Nat) (b:Bool) (S:Nat→Nat),k≤L.length→L.length - k≤f→L.length - k≤f'→∀ r,zBA L f k b S=some r→zBA L f' k b S=some r:=by
  intro f
  induction f with
  | zero=>intro f' k b S _ _ _ r h;cases h
  | succ f ih =>
   intro f' k b S hk hf hf' r h;obtain⟨S',j⟩:=r;have hj:=zCV _ _ _ _ _ _ hk h;obtain⟨f',rfl⟩:∃ g,f'=g+1:=⟨f' - 1,by omega⟩
   rw[zBA]at h ⊢;split at h
   ·rename_i hc;rw[if_pos hc];exact h
   ·rename_i hc;rw[if_neg hc];split at h
    ·cases h
    ·rename_i t e hi;have h1:=zDm hi;exact ih f' e false _ h1.2.1 (by omega) (by omega) _ h
 intro f' hf'
 cases h:zBA L f k b S with
 | some r=>exact(one f f' k b S hk hf hf' r h).symm
 | none =>
  cases h2:zBA L f' k b S with
  | none=>rfl
  | some r=>rw[one f' f k b S hk hf' hf r h2]at h;cases h
theorem zMp (i:Nat) (hi:i<B.length):zB3 (A++B) (A.length+i)=(zB3 B i).map (shW A.length):=by
 unfold zB3;simp only[Nat.add_assoc,zIC]
 by_cases h1:atP B (i+1) [94]=true
 ·have:=zCp h1 (by simp)
  simp at this;rw[if_pos h1,zFj,h1,if_pos rfl,zF2 (f:=(A++B).length+1) (f':=B.length+1) (by omega) (by simp;omega) (by omega),Option.map_map]
  unfold shO;rw[Option.map_map];rfl
 ·rw[if_neg h1,zFj,if_neg h1,zF2 (f:=(A++B).length+1) (f':=B.length+1) (by omega) (by simp;omega) (by omega),Option.map_map]
  unfold shO;rw[Option.map_map];rfl
theorem zCk:∀ (f k:Nat) (a b:Bool) (d:WordD),zAS (A++B) f (A.length+k) a b (shD A.length d)=(zAS B f k a b d).map (shW A.length)
 | 0,_,_,_,_=>rfl
 | f+1,k,a,b,d=>by
  rw[zAS,zAS];simp only[Nat.add_assoc,zLY,zFV]
  by_cases h1:k<B.length
  ·rw[if_pos h1,if_pos h1];split
   ·cases a
    ·exact zCk f (k+1) false true {d with on:=(true,d.on.2.1,d.on.2.2)}
    ·exact zCk f (k+1) true true {d with off:=(true,d.off.2.1,d.off.2.2)}
   ·split
    ·cases a
     ·exact zCk f (k+1) false true {d with on:=(d.on.1,true,d.on.2.2)}
     ·exact zCk f (k+1) true true {d with off:=(d.off.1,true,d.off.2.2)}
    ·split
     ·cases a
      ·exact zCk f (k+1) false true {d with on:=(d.on.1,d.on.2.1,true)}
      ·exact zCk f (k+1) true true {d with off:=(d.off.1,d.off.2.1,true)}
     ·split
      ·cases a
       ·exact zCk f (k+1) true false d
       ·rfl
      ·split
       ·cases b<;>rfl
       ·split
        ·cases b<;>rfl
        ·rfl
  ·rw[if_neg h1,if_neg h1];rfl
theorem zGG {L:Str}:∀ (f f' k:Nat) (a b:Bool) (d:WordD),L.length - k≤f→L.length - k≤f'→zAS L f k a b d=zAS L f' k a b d
 | 0,0,_,_,_,_,_,_=>rfl
 | 0,f'+1,k,a,b,d,h,_=>by rw[zAS,zAS,if_neg (by omega)]
 | f+1,0,k,a,b,d,_,h=>by rw[zAS,zAS,if_neg (by omega)]
 | f+1,f'+1,k,a,b,d,h,h'=>by
  rw[zAS,zAS]
  by_cases h1:k<L.length
  ·rw[if_pos h1,if_pos h1];have ih:∀ (a b:Bool) (d:WordD),zAS L f (k+1) a b d=zAS L f' (k+1) a b d:=fun a b d=>zGG f f' (k+1) a b d (by omega) (by omega)
   simp only[ih]
  ·rw[if_neg h1,if_neg h1]
theorem zL4 (i:Nat):zBR (A++B) (A.length+i)=(zBR B i).map (shW A.length):=by
 unfold zBR;rw[zGG (L:=B) (B.length+1) ((A++B).length+1) (i+2) _ _ _ (by omega) (by simp;omega)]
 exact zCk A B _ (i+2) false true {kind:=0,place:=i}
theorem zHi (i:Nat):zBr (A++B) (A.length+i)=shO A.length (zBr B i):=by
 unfold zBr;simp only[Nat.add_assoc,zJp,zFV];split
 ·rfl
 ·rfl
theorem zKx (i:Nat):zBN (A++B) (A.length+i)=(zBN B i).map (fun p=>(p.1,p.2.1,A.length+p.2.2)):=by
 unfold zBN;simp only[Nat.add_assoc,zHi]
 cases zBr B (i+1) with
 | none=>rfl
 | some p =>
  obtain⟨n,k⟩:=p;rw[zGQ];simp only[Nat.add_assoc,zIC,zHi];split
  ·rfl
  ·split
   ·cases zBr B (k+1) with
    | none=>rfl
    | some q =>
     obtain⟨m,e⟩:=q;rw[zGQ];simp only[Nat.add_assoc,zIC];split<;>rfl
   ·split<;>rfl
def shE (n:Nat) (x:Except Nat (WordD × Nat)):Except Nat (WordD × Nat):=match x with
 | .ok p=>.ok (shW n p)
 | .error e=>.error e
theorem zHf (i:Nat) (lo hi:Int) (e:Nat):zAk (A++B) (A.length+i) lo hi (A.length+e)=shE A.length (zAk B i lo hi e):=by
 unfold zAk;simp only[Nat.add_assoc,zIC];split
 ·rfl
 ·split<;>rfl
theorem zMo (i:Nat):zBi (A++B) (A.length+i)=(zBi B i).map (shW A.length):=by
 unfold zBi;simp only[Nat.add_assoc,zLY,zFV,zMb]
 cases (if i+1<B.length then zEj (byt B (i+1)) else none) with
 | some s=>rfl
 | none =>
  simp only[]
  cases (if i+1<B.length then zGu (byt B (i+1)) else none) with
  | some s=>rfl
  | none=>simp only[];unfold shO;rw[Option.map_map,Option.map_map];rfl
theorem zNz (n:Nat) (o:Option (WordD × Nat)):zBg (o.map (shW n))=shE n (zBg o):=by cases o<;>rfl
theorem zNr (i:Nat) (hi:i<B.length):zBK (A++B) (A.length+i)=shE A.length (zBK B i):=by
 unfold zBK;simp only[Nat.add_assoc,zFV,zIC,zMo,zL4,zMp A B i hi,zNz,zHf,zKx];split
 ·rfl
 ·split
  ·rfl
  ·split
   ·split<;>rfl
   ·split
    ·cases zBN B i with
     | none=>rfl
     | some p=>exact zHf A B i p.1 p.2.1 p.2.2
    ·split
     ·rfl
     ·split
      ·rfl
      ·split
       ·rfl
       ·cases zKC (byt B i)<;>rfl
end
theorem zDr {L:Str}:∀ (f f' i:Nat),L.length - i≤f→L.length - i≤f'→zAt L f i=zAt L f' i
 | 0,0,_,_,_=>rfl
 | 0,f'+1,i,h,_=>by rw[zAt,zAt,if_neg (by omega),if_neg (by omega)]
 | f+1,0,i,_,h=>by rw[zAt,zAt,if_neg (by omega),if_neg (by omega)]
 | f+1,f'+1,i,h,h'=>by
  rw[zAt,zAt]
  by_cases h1:i<L.length
  ·rw[if_pos h1,if_pos h1]
   cases hw:zBK L i with
   | error e=>rfl
   | ok p =>
    obtain⟨w,j⟩:=p;have:=zDs h1 hw;simp only[];rw[zDr f f' j (by omega) (by omega)]
  ·rw[if_neg h1,if_neg h1]
def zCA (L:Str) (i:Nat):Except (Nat × Nat) (List WordD):=zAt L L.length i
theorem zC6 {L:Str} {i:Nat} (h:L.length≤i):zCA L i=.ok []:=by
 unfold zCA;rw[zDr L.length 1 i (by omega) (by omega),zAt,if_neg (by omega)]
theorem zEH {L:Str} {i e:Nat} (h:i<L.length) (hw:zBK L i=.error e):zCA L i=.error (i,e):=by
 unfold zCA;rw[zDr L.length (L.length+1) i (by omega) (by omega),zAt,if_pos h,hw]
theorem zDa {L:Str} {i j:Nat} {d:WordD} (h:i<L.length) (hw:zBK L i=.ok (d,j)):zCA L i=match zCA L j with
  | .error x=>.error x
  | .ok l=>.ok (d::l):=by
 have:=zDs h hw;unfold zCA;rw[zDr L.length (L.length+1) i (by omega) (by omega),zAt,if_pos h,hw]
 rfl
def shL (n:Nat) (x:Except (Nat × Nat) (List WordD)):Except (Nat × Nat) (List WordD):=match x with
 | .ok l=>.ok (l.map (shD n))
 | .error e=>.error (n+e.1,e.2)
theorem zLM (A B:Str):∀ (n i:Nat),B.length - i≤n→zCA (A++B) (A.length+i)=shL A.length (zCA B i):=by
 intro n
 induction n with
 | zero =>
  intro i h;rw[zC6 (by simp;omega),zC6 (by omega)];rfl
 | succ n ih =>
  intro i h
  by_cases hi:i<B.length
  ·have hs:=zNr A B i hi
   cases hw:zBK B i with
   | error e =>
    rw[hw]at hs;rw[zEH (by simp;omega) hs,zEH hi hw];rfl
   | ok p =>
    obtain⟨w,j⟩:=p;have:=zDs hi hw;rw[hw]at hs;rw[zDa (by simp;omega) hs,zDa hi hw,ih j (by omega)]
    cases zCA B j<;>rfl
  ·rw[zC6 (by simp;omega),zC6 (by omega)];rfl
theorem zIE (A B:Str):zCA (A++B) A.length=shL A.length (zCv B):=zLM A B B.length 0 (by omega)
def zJ3 (B:Str):Prop:=∀ c l,B=c::l→zKi c.toNat=false∧c≠63∧c≠123
theorem zFg (A B:Str) {m:Nat} (h:m≤A.length):Agree A (A++B) m:=⟨h,by simp;omega,by rw[List.take_append_of_le_length h]⟩
theorem zNw {A B:Str} (h:zJ3 B) {t:Str} {c:UInt8} (hc:c=63) (ht:t=[c]) {j:Nat} (hj:j≤A.length) (ha:atP (A++B) j t=true):atP A j t=true:=by
 subst ht hc;rcases Nat.lt_or_ge j A.length with hlt|hge
 ·rwa [(zFg A B (m:=A.length) (by omega)).at (by simp;omega)]at ha
 ·have:j=A.length+0:=by omega
  rw[this,zIC]at ha;unfold atP at ha
  cases B with
  | nil=>simp at ha
  | cons c l =>
   simp at ha;exact absurd ha.symm (h c l rfl).2.1
theorem zI8 {A B:Str} (h:zJ3 B) {i:Nat} (hi:i<A.length) (hn:zBN A i=none):zBN (A++B) i=none:=by
 cases hb:zBN (A++B) i with
 | none=>rfl
 | some p =>
  exfalso
  obtain⟨lo,hi',e⟩:=p;have he:=zE1 hb (by simp;omega)
  rcases Nat.lt_or_ge A.length e with hlt|hge
  ·have hg:=zIR (by simp;omega) hb A.length hi hlt
   have:=zFV A B 0;rw[Nat.add_zero]at this;rw[this]at hg
   cases B with
   | nil=>simp at he;omega
   | cons c l =>
    have:=(h c l rfl).1;unfold byt at hg;simp at hg;rw[this]at hg;cases hg
  ·rw[zFQ (by simp;omega) hb (zFg A B hge).symm]at hn;cases hn
theorem zK9 {A B:Str} (hB:NoB A) (hq:zJ3 B) {i j:Nat} {d:WordD} (hi:i<A.length) (h:zBK A i=.ok (d,j)):zBK (A++B) i=.ok (d,j):=by
 have hl:=zDs hi h;exact zJr hB hi h (zFg A B hl.2) (fun ha=>zNw hq rfl rfl hl.2 ha) (fun hn=>zI8 hq hi hn)
theorem zLa {A B:Str} (hB:NoB A) (hq:zJ3 B):∀ (n i:Nat) (l:List WordD),A.length - i≤n→i≤A.length→zCA A i=.ok l→zCA (A++B) i=match zCv B with
  | .error x=>.error (A.length+x.1,x.2)
  | .ok l2=>.ok (l++l2.map (shD A.length)):=by
 intro n
 induction n with
 | zero =>
  intro i l h hi hw;have:i=A.length:=by omega
  subst this;rw[zC6 (by omega)]at hw
  cases hw
  rw[zIE]
  cases zCv B<;>rfl
 | succ n ih =>
  intro i l h hi hw;rcases Nat.lt_or_ge i A.length with hlt|hge
  ·cases hx:zBK A i with
   | error e=>rw[zEH hlt hx]at hw;cases hw
   | ok p =>
    obtain⟨d,j⟩:=p;have hl:=zDs hlt hx;rw[zDa hlt hx]at hw
    cases hy:zCA A j with
    | error x=>rw[hy]at hw;cases hw
    | ok l1 =>
     rw[hy]at hw
     cases hw
     rw[zDa (by simp;omega) (zK9 hB hq hlt hx),ih j l1 (by omega) (by omega) hy]
     cases zCv B<;>rfl
  ·have:i=A.length:=by omega
   subst this;rw[zC6 (by omega)]at hw
   cases hw
   rw[zIE]
   cases zCv B<;>rfl
theorem zJ7 {A B:Str} (hB:NoB A) (hq:zJ3 B) {l:List WordD} (h:zCv A=.ok l):zCv (A++B)=match zCv B with
  | .error x=>.error (A.length+x.1,x.2)
  | .ok l2=>.ok (l++l2.map (shD A.length)):=zLa hB hq A.length 0 l (by omega) (by omega) h

def er (w:WordD):WordD:={w with place:=0}
theorem zLt (w:WordD):(er w).kind=w.kind:=rfl
theorem zPX (f:zAW) (w:WordD):zFG f (er w)=zFG f w:=rfl
theorem zPm (w:WordD) (f:zAW):zCl (er w) f=zCl w f:=rfl
theorem zQJ (w:WordD) (t:Tree):repT (er w) t=repT w t:=rfl
theorem zNm (w:WordD):zBC (er w)=zBC w:=rfl
def erO (x:Option (Tree × List WordD × Nat)):Option (Tree × List WordD × Nat):=x.map (fun y=>(y.1,y.2.1.map er,y.2.2))
theorem zIK:∀ (m:Nat) (f:zAW) (r:List WordD) (g:Nat) (all items:List Tree),zAz m f (r.map er) g all items=erO (zAz m f r g all items)
 | 0,_,_,_,_,_=>rfl
 | m+1,_,[],_,_,_=>rfl
 | m+1,f,w::r,g,all,items=>by
  have IH:=zIK m;simp only[List.map_cons];unfold zAz;simp only[zLt,zPX,zPm,zQJ,IH];split
  ·rfl
  split
  ·rfl
  split
  ·rfl
  split
  ·split<;>rfl
  split
  ·cases zAz m (zFG f w) r g [] [] with
   | none=>rfl
   | some x=>obtain⟨t1,r1,g1⟩:=x;cases r1 with
    | nil=>rfl
    | cons d r1=>simp only[erO,Option.map_some,List.map_cons];exact IH ..
  split
  ·cases zAz m f r (g+1) [] [] with
   | none=>rfl
   | some x=>obtain⟨t1,r1,g1⟩:=x;cases r1 with
    | nil=>rfl
    | cons d r1=>simp only[erO,Option.map_some,List.map_cons];exact IH ..
  ·rfl
theorem zJf {W W':List WordD} (h:W'.map er=W.map er) {m:Nat} {f:zAW} {g g':Nat} {t:Tree} (e:zAz m f W g [] []=some (t,[],g')):zAz m f W' g [] []=some (t,[],g'):=by
 have h1:=zIK m f W' g [] [];rw[h,zIK,e]at h1
 cases hx:zAz m f W' g [] [] with
 | none=>rw[hx]at h1;cases h1
 | some x =>
  obtain⟨t1,r1,g1⟩:=x;rw[hx]at h1;simp only[erO,Option.map_some,List.map_nil,Option.some.injEq,Prod.mk.injEq]at h1;obtain⟨rfl,h2,rfl⟩:=h1;have:r1=[]:=by simpa using h2.symm
  rw[this]
theorem zIV:∀ (r:List WordD) (b:Bool) (op:List Nat),zAg b (op.map fun _=>0) (r.map er)=(zAg b op r).map fun _=>0
 | [],b,op=>by
  simp only[List.map_nil,zAg];rw[List.getLast?_map]
 | w::r,b,op=>by
  simp only[List.map_cons,zAg,zLt,zNm,List.map_eq_nil_iff];split
  ·rfl
  ·rw[← zIV r]
   congr 1
   by_cases h9:w.kind=9<;>by_cases hp:zBC w=true<;>simp[h9,hp,er,List.map_dropLast]
theorem zHa {W W':List WordD} (h:W'.map er=W.map er) (e:zCc W=none):zCc W'=none:=by
 have h1:=zIV W' true [];have h2:=zIV W true [];unfold zCc at *;rw[h]at h1;rw[h1]at h2;rw[e]at h2
 cases hx:zAg true [] W' with
 | none=>rfl
 | some x=>rw[hx]at h2;cases h2
theorem zGf:∀ (m:Nat) (f:zAW) (r:List WordD) (g:Nat) (all items:List Tree) (t:Tree) (r':List WordD) (g':Nat),zAz m f r g all items=some (t,r',g')→∀ (c:WordD) (s:List WordD),c.kind=9→∀ k,zAz (m+k) f (r++c::s) g all items=some (t,r'++c::s,g')
 | 0,f,r,g,all,items,t,r',g',h=>by simp[zAz]at h
 | m+1,f,[],g,all,items,t,r',g',h=>by
  intro c s hc k;simp only[zAz,Option.some.injEq,Prod.mk.injEq]at h;obtain⟨rfl,rfl,rfl⟩:=h;rw[show m+1+k=(m+k)+1 by omega]
  simp only[List.nil_append,zAz,hc,if_true]
 | m+1,f,w::r,g,all,items,t,r',g',h=>by
  intro c s hc k;have IH:=fun f r g all items t r' g' h=>zGf m f r g all items t r' g' h c s hc k
  rw[show m+1+k=(m+k)+1 by omega]
  rw[List.cons_append];unfold zAz at h ⊢
  by_cases h9:w.kind=9
  ·rw[if_pos h9]at h ⊢;simp only[Option.some.injEq,Prod.mk.injEq]at h;obtain⟨rfl,rfl,rfl⟩:=h;rfl
  rw[if_neg h9]at h ⊢
  by_cases h8:w.kind=8
  ·rw[if_pos h8]at h ⊢;exact IH _ _ _ _ _ _ _ _ h
  rw[if_neg h8]at h ⊢
  by_cases h10:w.kind=10
  ·rw[if_pos h10]at h ⊢;exact IH _ _ _ _ _ _ _ _ h
  rw[if_neg h10]at h ⊢
  by_cases h11:w.kind=11
  ·rw[if_pos h11]at h ⊢;split at h
   ·cases h
   ·rename_i x hx;exact IH _ _ _ _ _ _ _ _ h
  rw[if_neg h11]at h ⊢
  by_cases h7:w.kind=7
  ·rw[if_pos h7]at h ⊢;split at h
   ·rename_i t1 d1 r1 g1 e1;rw[IH _ _ _ _ _ _ _ _ e1];exact IH _ _ _ _ _ _ _ _ h
   ·cases h
  rw[if_neg h7]at h ⊢
  by_cases h6:w.kind=6
  ·rw[if_pos h6]at h ⊢;split at h
   ·rename_i t1 d1 r1 g1 e1;rw[IH _ _ _ _ _ _ _ _ e1];exact IH _ _ _ _ _ _ _ _ h
   ·cases h
  rw[if_neg h6]at h ⊢;exact IH _ _ _ _ _ _ _ _ h
def zPD (b:Bool):List WordD→Bool
 | []=>b
 | w::r=>zPD (zBC w || w.kind == 8 || w.kind == 10 || w.kind == 11) r
theorem zJX:∀ (l:List WordD) (b:Bool) (op base:List Nat) (r:List WordD),zAg b op l=none→zAg b (base++op) (l++r)=zAg (zPD b l) base r
 | [],b,op,base,r,h=>by
  rw[zAg]at h;have:op=[]:=by simpa using h
  subst this;simp[zPD]
 | w::l,b,op,base,r,h=>by
  rw[zAg]at h;split at h
  ·cases h
  ·rename_i hc
   dsimp only at h
   rw[List.cons_append,zAg,if_neg (fun hh=>hc (hh.imp id (fun ⟨h1,h2⟩=>⟨h1,(List.append_eq_nil_iff.1 h2).2⟩)))]
   dsimp only
   have hop:w.kind=9→op≠[]:=fun h9 e=>hc (.inr ⟨h9,e⟩)
   have:(if w.kind=9 then (if zBC w=true then base++op++[w.place] else base++op).dropLast else (if zBC w=true then base++op++[w.place] else base++op))=base++(if w.kind=9 then (if zBC w=true then op++[w.place] else op).dropLast else (if zBC w=true then op++[w.place] else op)):=by
    by_cases h9:w.kind=9
    ·have ho:zBC w=false:=by simp[zBC,h9]
     simp only[h9,ho,if_true,Bool.false_eq_true,if_false];rw[List.dropLast_append_of_ne_nil (hop h9)]
    ·simp only[h9,if_false];split<;>simp
   rw[this];exact zJX l _ _ base r h
mutual
def numT (k:Nat):Tree→Tree
 | .mk d ks=>.mk {d with group:=if d.kind=7 then d.group+k else d.group} (zHT k ks)
def zHT (k:Nat):List Tree→List Tree
 | []=>[]
 | t::r=>numT k t::zHT k r
end
theorem zFR (k:Nat):∀ ts:List Tree,zHT k ts=ts.map (numT k)
 | []=>rfl
 | t::r=>by rw[zHT,zFR k r];rfl
theorem zFK (k:Nat) (j:Int) (h:j≠7):numT k (zDk j)=zDk j:=by
 simp only[zDk,numT,zHT,if_neg h]
theorem zIT (k:Nat) (j:Int) (h:j≠7) (ts:List Tree):numT k (rowT j ts)=rowT j (ts.map (numT k)):=by
 match ts with
 | []=>exact zFK k 1 (by decide)
 | [t]=>rfl
 | a::b::r=>simp only[rowT,List.map_cons,numT,if_neg h,zHT,zFR]
theorem zKB (k:Nat) (s:Nat→Nat):numT k (setT s)=setT s:=by
 unfold setT;split
 ·exact zFK k 2 (by decide)
 ·rfl
theorem zPZ (k:Nat) (b:Bool) (s u:Nat→Nat):numT k (if b=true then setT s else setT u)=if b=true then setT s else setT u:=by
 cases b
 ·simp only[Bool.false_eq_true,if_false];exact zKB k u
 ·simp only[if_true];exact zKB k s
theorem zKV (k:Nat) (f:zAW) (a b:Int) (ha:a≠7) (hb:b≠7):numT k (zFE f a b)=zFE f a b:=by
 unfold zFE;split
 ·exact zFK k _ hb
 ·exact zFK k _ ha
theorem zNx (k:Nat) {w:WordD} (h7:w.kind=5→w.spot≠7) (h5:w.kind=1∨w.kind=2∨w.kind=3∨w.kind=4∨w.kind=5) (f:zAW):numT k (zCl w f)=zCl w f:=by
 unfold zCl;split
 ·exact zKB k _
 split
 ·exact zPZ k _ _ _
 split
 ·exact zKV k f _ _ (by decide) (by decide)
 split
 ·exact zKV k f _ _ (by decide) (by decide)
 ·have:=h7 (by omega)
  exact zFK k _ (by omega)
theorem zPK (k:Nat) (w:WordD) (x:Tree):numT k (repT w x)=repT w (numT k x):=by
 simp only[repT,numT,zHT];rfl
theorem zL3 (k g:Nat) (x:Tree):numT k (zDK g x)=zDK (g+k) (numT k x):=by
 simp only[zDK,numT,zHT,if_true]
 congr 2
def numO (k:Nat) (x:Option (Tree × List WordD × Nat)):Option (Tree × List WordD × Nat):=x.map (fun y=>(numT k y.1,y.2.1,y.2.2+k))
theorem zFe (k:Nat):∀ (m:Nat) (f:zAW) (r:List WordD) (g:Nat) (all items:List Tree),(∀ w ∈ r,zBF w)→zAz m f r (g+k) (all.map (numT k)) (items.map (numT k))=numO k (zAz m f r g all items)
 | 0,_,_,_,_,_,_=>rfl
 | m+1,f,[],g,all,items,_=>by
  simp only[zAz,numO,Option.map_some,Option.some.injEq,Prod.mk.injEq,and_true];rw[zIT k 5 (by decide),List.map_append,List.map_cons,zIT k 4 (by decide)]
  rfl
 | m+1,f,w::r,g,all,items,hf=>by
  have hw0:=hf w (List.mem_cons_self ..);have hr:∀ x ∈ r,zBF x:=fun x hx=>hf x (List.mem_cons_of_mem _ hx)
  have IH:=fun f g all items=>zFe k m f r g all items hr
  have IH2:=fun f r' g all items (h:∀ x ∈ r',zBF x)=>zFe k m f r' g all items h
  have hrow:(all++[rowT 4 items]).map (numT k)=all.map (numT k)++[rowT 4 (items.map (numT k))]:=by
   rw[List.map_append,List.map_cons,zIT k 4 (by decide)];rfl
  unfold zAz
  by_cases h9:w.kind=9
  ·rw[if_pos h9,if_pos h9];simp only[numO,Option.map_some,Option.some.injEq,Prod.mk.injEq,and_true];rw[zIT k 5 (by decide),hrow]
  rw[if_neg h9,if_neg h9]
  by_cases h8:w.kind=8
  ·rw[if_pos h8,if_pos h8];exact IH ..
  rw[if_neg h8,if_neg h8]
  by_cases h10:w.kind=10
  ·rw[if_pos h10,if_pos h10,← hrow];exact IH _ _ _ []
  rw[if_neg h10,if_neg h10]
  by_cases h11:w.kind=11
  ·rw[if_pos h11,if_pos h11];rw[List.getLast?_map]
   cases hl:items.getLast? with
   | none=>rfl
   | some x =>
    simp only[Option.map_some];rw[← IH,List.map_append,List.map_dropLast,List.map_cons,zPK];rfl
  rw[if_neg h11,if_neg h11]
  by_cases h7:w.kind=7
  ·rw[if_pos h7,if_pos h7];have e:=IH (zFG f w) g [] [];simp only[List.map_nil]at e;rw[e]
   cases hx:zAz m (zFG f w) r g [] [] with
   | none=>rfl
   | some x =>
    obtain⟨t1,r1,g1⟩:=x
    cases r1 with
    | nil=>rfl
    | cons d1 r1 =>
     simp only[numO,Option.map_some];have hs:∀ x ∈ r1,zBF x:=fun x hx'=>hr x ((zDu _ _ _ _ _ _ _ _ _ hx).subset (List.mem_cons_of_mem _ hx'))
     rw[show items.map (numT k)++[numT k t1]=(items++[t1]).map (numT k) by simp]
     exact IH2 _ _ _ _ _ hs
  rw[if_neg h7,if_neg h7]
  by_cases h6:w.kind=6
  ·rw[if_pos h6,if_pos h6];have e:=IH f (g+1) [] [];simp only[List.map_nil]at e;rw[show g+k+1=g+1+k by omega,e]
   cases hx:zAz m f r (g+1) [] [] with
   | none=>rfl
   | some x =>
    obtain⟨t1,r1,g1⟩:=x
    cases r1 with
    | nil=>rfl
    | cons d1 r1 =>
     simp only[numO,Option.map_some];have hs:∀ x ∈ r1,zBF x:=fun x hx'=>hr x ((zDu _ _ _ _ _ _ _ _ _ hx).subset (List.mem_cons_of_mem _ hx'))
     rw[← zL3,show items.map (numT k)++[numT k (zDK (g+1) t1)]=(items++[zDK (g+1) t1]).map (numT k) by simp]
     exact IH2 _ _ _ _ _ hs
  rw[if_neg h6,if_neg h6];obtain⟨k1,k2,k5,_⟩:=hw0;rw[← IH,List.map_append,List.map_cons,zNx k (fun h=>by have:=k5 h;omega) (by omega)]
  rfl
def zBv (L:Str) (f:zAW) (t:Tree) (g:Nat):Prop:=zA7 L f=.ok (t,g)∨∃ x,zA7 L f=.error (0,x)∧(x=3∨x=5∨x=7)
theorem zNf {L:Str} {f:zAW} {ws:List WordD} {t:Tree} {g:Nat} (hw:zCv L=.ok ws) (h1:zCc ws=none) (h2:zAz (ws.length+1) f ws 0 [] []=some (t,[],g)):zBv L f t g:=by
 by_cases hl:1000<L.length
 ·refine .inr ⟨3,?_,.inl rfl⟩;unfold zA7 zCJ;rw[if_pos hl]
 ·have e:zCJ L=.ok ws:=by unfold zCJ;rw[if_neg hl,hw]
  unfold zBv zA7;rw[e];simp only[h1,h2];split
  ·exact .inr ⟨7,rfl,.inr (.inr rfl)⟩
  ·split
   ·exact .inr ⟨5,rfl,.inr (.inl rfl)⟩
   ·exact .inl rfl
def opn7:WordD:={kind:=7,place:=0}
def opn6:WordD:={kind:=6,place:=0}
def cls9:WordD:={kind:=9,place:=0}
def bar10:WordD:={kind:=10,place:=0}
def WsP (L:Str) (l:List WordD):Prop:=∃ W,zCv L=.ok W∧W.map er=l
theorem zIb:WsP [] []:=⟨[],rfl,rfl⟩
theorem zGW {L B:Str} {d:WordD} {l:List WordD} {n:Nat} (hL:∃ A:Str,L=A++B∧A.length=n) (h0:0<L.length) (hd:zBK L 0=.ok (d,n)) (hB:WsP B l):WsP L (er d::l):=by
 obtain⟨A,rfl,rfl⟩:=hL;obtain⟨W,h1,h2⟩:=hB;refine⟨d::W.map (shD A.length),?_,?_⟩
 ·show zCA (A++B) 0=_
  rw[zDa h0 hd,zIE,h1];rfl
 ·rw[List.map_cons,List.map_map]
  congr 1
theorem zKb {A B:Str} {la lb:List WordD} (hn:NoB A) (hq:zJ3 B) (hA:WsP A la) (hB:WsP B lb):WsP (A++B) (la++lb):=by
 obtain⟨W,h1,h2⟩:=hA;obtain⟨V,h3,h4⟩:=hB;refine⟨W++V.map (shD A.length),?_,?_⟩
 ·rw[zJ7 hn hq h1,h3]
 ·rw[List.map_append,h2,List.map_map,← h4]
  congr 1
theorem zMn {B:Str} {l:List WordD} (hB:WsP B l):WsP (41::B) (cls9::l):=zGW (d:={kind:=9,place:=0}) (n:=1) ⟨[41],rfl,rfl⟩ (by simp) rfl hB
theorem zPk {B:Str} {l:List WordD} (hB:WsP B l):WsP (124::B) (bar10::l):=zGW (d:={kind:=10,place:=0}) (n:=1) ⟨[124],rfl,rfl⟩ (by simp) rfl hB
theorem zQA (B:Str):zBR (40::63::58::B) 0=some ({kind:=7,place:=0},3):=by
 unfold zBR;rw[zAS];simp[byt]
theorem zOA {B:Str} {l:List WordD} (hB:WsP B l):WsP (40::63::58::B) (opn7::l):=zGW (d:={kind:=7,place:=0}) (n:=3) ⟨[40,63,58],rfl,rfl⟩ (by simp) (by
 have h:=zQA B;unfold zBK;have h0:byt (40::63::58::B) 0=40:=rfl;have h1:atP (40::63::58::B) (0+1) [63]=true:=by simp[atP]
 simp only[h0,h1,h]
 rfl) hB
theorem zNG (B:Str):zJ3 (41::B):=by
 intro c l e
 cases e
 exact⟨by decide,by decide,by decide⟩
theorem zD8 {A Y:Str} {la ly:List WordD} (hn:NoB A) (hA:WsP A la) (hY:WsP Y ly):WsP (40::63::58::(A++41::Y)) (opn7::(la++cls9::ly)):=zOA (zKb hn (zNG Y) hA (zMn hY))
theorem zOU {B:Str} {l:List WordD} (hq:∀ B',B≠63::B') (hB:WsP B l):WsP (40::B) (opn6::l):=zGW (d:={kind:=6,place:=0}) (n:=1) ⟨[40],rfl,rfl⟩ (by simp) (by
 unfold zBK;have h0:byt (40::B) 0=40:=rfl;have h1:atP (40::B) (0+1) [63]=false:=by
  unfold atP
  cases B with
  | nil=>rfl
  | cons c B =>
   have:c≠63:=fun e=>hq B (by rw[e])
   simp[List.isPrefixOf];intro e;exact this e.symm
 simp only[h0,h1]
 rfl) hB
theorem zGt {L:Str} {f:zAW} {t:Tree} {g:Nat} (h:zA7 L f=.ok (t,g)):∃ l,WsP L l∧zCc l=none∧zAz (l.length+1) f l 0 [] []=some (t,[],g)∧∀ w ∈ l,zBF w:=by
 unfold zA7 at h
 cases hw:zCJ L with
 | error x=>rw[hw]at h;cases h
 | ok ws =>
  rw[hw]at h;simp only at h
  cases hb:zCc ws with
  | some a=>rw[hb]at h;cases h
  | none =>
   rw[hb]at h;simp only at h;obtain⟨t',g',ha⟩:=zFr f hb;rw[ha]at h;simp only at h;split at h
   ·cases h
   ·split at h
    ·cases h
    ·cases h
     have hfine:=zFq hw;have hw2:zCv L=.ok ws:=by
      unfold zCJ at hw;split at hw
      ·cases hw
      ·exact hw
     have hm:(ws.map er).map er=ws.map er:=by rw[List.map_map];rfl
     refine⟨ws.map er,⟨ws,hw2,rfl⟩,zHa hm hb,?_,?_⟩
     ·rw[List.length_map];exact zJf hm ha
     ·intro w hx;obtain⟨d,hd,rfl⟩:=List.mem_map.1 hx;exact hfine d hd
theorem zEd {L:Str} {f:zAW} {l:List WordD} {t:Tree} {g:Nat} (h:WsP L l) (h1:zCc l=none) (h2:zAz (l.length+1) f l 0 [] []=some (t,[],g)):zBv L f t g:=by
 obtain⟨W,e1,e2⟩:=h;have hl:l.length=W.length:=by rw[← e2,List.length_map]
 rw[hl]at h2;have hm:W.map er=l.map er:=by rw[← e2,List.map_map];rfl
 exact zNf e1 (zHa hm h1) (zJf hm h2)
section
variable {f:zAW} {la:List WordD} {ta:Tree} {ga:Nat}
theorem zQe (f:zAW):zFG f opn7=f:=by
 obtain⟨a,b,c⟩:=f
 cases a<;>cases b<;>cases c<;>rfl
theorem zEu (hf:∀ w ∈ la,zBF w) (h:zAz (la.length+1) f la 0 [] []=some (ta,[],ga)) (m:Nat) (hm:la.length+1≤m) (g:Nat) (all items:List Tree) (r:List WordD):zAz (m+1) f (opn7::(la++cls9::r)) g all items=zAz m f r (ga+g) all (items++[numT g ta]):=by
 have h1:=zFe g (la.length+1) f la 0 [] [] hf;rw[h,Nat.zero_add]at h1;simp only[List.map_nil,numO,Option.map_some]at h1;have h2:=zGf _ _ _ _ _ _ _ _ _ h1 cls9 r rfl (m - (la.length+1));rw[show la.length+1+(m - (la.length+1))=m by omega]at h2
 rw[zAz];simp only[show opn7.kind=7 from rfl,Nat.reduceEqDiff,if_false,if_true,zQe,h2]
 rfl
theorem zMa (hf:∀ w ∈ la,zBF w) (h:zAz (la.length+1) f la 0 [] []=some (ta,[],ga)) (m:Nat) (hm:la.length+1≤m) (g:Nat) (all items:List Tree) (r:List WordD):zAz (m+1) f (opn6::(la++cls9::r)) g all items=zAz m f r (ga+(g+1)) all (items++[zDK (g+1) (numT (g+1) ta)]):=by
 have h1:=zFe (g+1) (la.length+1) f la 0 [] [] hf;rw[h,Nat.zero_add]at h1;simp only[List.map_nil,numO,Option.map_some]at h1;have h2:=zGf _ _ _ _ _ _ _ _ _ h1 cls9 r rfl (m - (la.length+1));rw[show la.length+1+(m - (la.length+1))=m by omega]at h2
 rw[zAz];simp only[show opn6.kind=6 from rfl,Nat.reduceEqDiff,if_false,if_true,h2]
 rfl
theorem zDh {o:WordD} (ho:o.kind=6∨o.kind=7) (h:zCc la=none) (b:Bool) (r:List WordD):zAg b [] (o::(la++cls9::r))=zAg false [] r:=by
 have hp:zBC o=true:=by rcases ho with h|h<;>simp[zBC,h]
 rw[zAg,if_neg (by omega)]
 simp only[hp,if_true,Bool.true_or,List.nil_append];rw[if_neg (by omega)]
 have h1:=zJX la true [] [o.place] (cls9::r) h;rw[List.append_nil]at h1;rw[h1,zAg,if_neg (by simp[cls9])]
 rfl
end
theorem zFS:∀ t:Tree,numT 0 t=t
 | .mk d ks=>by
  have ih:∀ t ∈ ks,numT 0 t=t:=fun t ht=>zFS t
  rw[numT,zFR]
  congr 1
  ·cases d;simp
  ·conv=>rhs;rw[← List.map_id ks]
   exact List.map_congr_left (fun t ht=>ih t ht)
section
variable {A B:Str} {f:zAW} {n m:Tree} {i k:Nat}
theorem zMR (hA:NoB A) (hB:NoB B) (h1:zA7 A f=.ok (n,i)) (h2:zA7 B f=.ok (m,k)):zBv (40::63::58::(A++41::(40::63::58::(B++[41])))) f (.mk {kind:=4} [n,numT i m]) (i+k):=by
 obtain⟨la,a1,a2,a3,a4⟩:=zGt h1;obtain⟨lb,b1,b2,b3,b4⟩:=zGt h2;refine zEd (zD8 hA a1 (zD8 hB b1 zIb)) ?_ ?_
 ·unfold zCc;rw[zDh (.inr rfl) a2,zDh (.inr rfl) b2,zAg];rfl
 ·have e:(opn7::(la++cls9::(opn7::(lb++cls9::[])))).length+1=(la.length+lb.length+2+1)+1+1:=by simp;omega
  rw[e,zEu a4 a3 _ (by omega),zEu b4 b3 _ (by omega)]
  simp only[zAz,List.nil_append,List.cons_append,rowT,zFS,Nat.add_zero];rw[Nat.add_comm k i]
theorem zNI (hA:NoB A) (hB:NoB B) (h1:zA7 A f=.ok (n,i)) (h2:zA7 B f=.ok (m,k)):zBv (40::63::58::(A++41::(124::(40::63::58::(B++[41]))))) f (.mk {kind:=5} [n,numT i m]) (i+k):=by
 obtain⟨la,a1,a2,a3,a4⟩:=zGt h1;obtain⟨lb,b1,b2,b3,b4⟩:=zGt h2;refine zEd (zD8 hA a1 (zPk (zD8 hB b1 zIb))) ?_ ?_
 ·unfold zCc;rw[zDh (.inr rfl) a2,zAg,if_neg (by simp[bar10])]
  simp only[show zBC bar10=false from rfl,show bar10.kind=10 from rfl,Nat.reduceEqDiff,if_false,Bool.false_eq_true]
  rw[zDh (.inr rfl) b2,zAg];rfl
 ·have e:(opn7::(la++cls9::(bar10::(opn7::(lb++cls9::[]))))).length+1=((la.length+lb.length+2+1)+1)+1+1:=by simp;omega
  rw[e,zEu a4 a3 _ (by omega),zAz]
  simp only[show bar10.kind=10 from rfl,Nat.reduceEqDiff,if_false,if_true]
  rw[zEu b4 b3 _ (by omega)]
  simp only[zAz,List.nil_append,List.cons_append,rowT,zFS,Nat.add_zero];rw[Nat.add_comm k i]
theorem zMJ (hA:NoB A) (h1:zA7 A f=.ok (n,i)):zBv (40::63::58::(A++[41])) f n i:=by
 obtain⟨la,a1,a2,a3,a4⟩:=zGt h1;refine zEd (zD8 hA a1 zIb) ?_ ?_
 ·unfold zCc;rw[zDh (.inr rfl) a2,zAg];rfl
 ·have e:(opn7::(la++cls9::[])).length+1=(la.length+1+1)+1:=by simp
  rw[e,zEu a4 a3 _ (by omega)]
  simp only[zAz,List.nil_append,rowT,zFS,Nat.add_zero]
theorem zGZ (hA:NoB A) (h1:zA7 A f=.ok (n,i)) {Y:Str} {rw:WordD} (hk:rw.kind=11) (hY:WsP Y [rw]):zBv (40::63::58::(A++41::Y)) f (repT rw n) i:=by
 obtain⟨la,a1,a2,a3,a4⟩:=zGt h1;refine zEd (zD8 hA a1 hY) ?_ ?_
 ·unfold zCc;rw[zDh (.inr rfl) a2,zAg,if_neg (by simp[hk])]
  simp only[show zBC rw=false by simp[zBC,hk],hk,Nat.reduceEqDiff,if_false,Bool.false_eq_true]
  rw[zAg];rfl
 ·have e:(opn7::(la++cls9::[rw])).length+1=(la.length+1+1+1)+1:=by simp
  rw[e,zEu a4 a3 _ (by omega),zAz]
  simp only[hk,Nat.reduceEqDiff,if_false,if_true];simp only[zAz,List.nil_append,rowT,zFS,Nat.add_zero,List.getLast?_singleton,List.dropLast_singleton]
theorem zMv (hA:NoB A) (h1:zA7 A f=.ok (n,i)):zBv (40::(A++[41])) f (zDK 1 (numT 1 n)) (i+1):=by
 obtain⟨la,a1,a2,a3,a4⟩:=zGt h1;refine zEd (zOU ?_ (zKb hA (zNG []) a1 (zMn zIb))) ?_ ?_
 ·intro B' e
  cases A with
  | nil=>simp at e
  | cons c A =>
   simp only[List.cons_append,List.cons.injEq]at e;obtain⟨rfl,_⟩:=e;obtain⟨W,e1,e2⟩:=a1;have h0:(0:Nat)<(63::A).length:=by simp
   cases hw:zBK (63::A) 0 with
   | error x =>
    have:=zEH h0 hw;have e1:zCA (63::A) 0=.ok W:=e1;rw[this]at e1;cases e1
   | ok x =>
    obtain⟨d,j⟩:=x;have hg:=zDa h0 hw;have e1:zCA (63::A) 0=.ok W:=e1;rw[e1]at hg;have hd:d.kind=11:=by
     have h1:zAk (63::A) 0 0 1 1=.ok (d,j):=hw;unfold zAk at h1;split at h1
     ·cases h1
     ·split at h1<;>(cases h1;rfl)
    cases hq:zCA (63::A) j with
    | error x=>rw[hq]at hg;cases hg
    | ok l =>
     rw[hq]at hg
     cases hg
     rw[← e2]at a2;unfold zCc at a2;rw[List.map_cons,zAg,if_pos (.inl ⟨hd,rfl⟩)]at a2
     cases a2
 ·unfold zCc;rw[zDh (.inl rfl) a2,zAg];rfl
 ·have e:(opn6::(la++cls9::[])).length+1=(la.length+1+1)+1:=by simp
  rw[e,zMa a4 a3 _ (by omega)]
  simp only[zAz,List.nil_append,rowT,Nat.zero_add]
end
theorem zPn:WsP [42] [{kind:=11,place:=0,lo:=0,hi := -1}]:=⟨_,rfl,rfl⟩
theorem zOx:WsP [43,63] [{kind:=11,place:=0,lo:=1,hi := -1,lazy:=true}]:=⟨_,rfl,rfl⟩
theorem zP4:WsP [123,50,44,53,125] [{kind:=11,place:=0,lo:=2,hi:=5}]:=⟨_,rfl,rfl⟩
end
section
open Go.RowKit Go.Shelf
attribute [local go_sem] Oper.semAt_some
def NW (A:Nat→Option Obj→Prop) (t:Tree) (v:Value) (W:World):Prop:=∃ p c F,v=zAf t.d (.slice p t.kids.length c)∧ForestR W F p c t.kids∧∀ b,F b→b<W.heap.size∧A b W.heap[b]?
def KW (A:Nat→Option Obj→Prop) (ts:List Tree) (v:Value) (W:World):Prop:=∃ p c F,v=.slice p ts.length c∧ForestR W F p c ts∧∀ b,F b→b<W.heap.size∧A b W.heap[b]?
section
variable {A:Nat→Option Obj→Prop}
theorem NW.below {t:Tree} {v:Value} {w w':World} (h:NW A t v w) (hb:Below w.heap.size w w'):NW A t v w':=by
 obtain⟨p,c,F,e,h,hF⟩:=h;exact⟨p,c,F,e,h.kept fun b hf=>hb.block b (hF b hf).1,fun b hf=>⟨Nat.lt_of_lt_of_le (hF b hf).1 hb.size,by rw[hb.block b (hF b hf).1];exact(hF b hf).2⟩⟩
theorem KW.below {t:List Tree} {v:Value} {w w':World} (h:KW A t v w) (hb:Below w.heap.size w w'):KW A t v w':=by
 obtain⟨p,c,F,e,h,hF⟩:=h;exact⟨p,c,F,e,h.kept fun b hf=>hb.block b (hF b hf).1,fun b hf=>⟨Nat.lt_of_lt_of_le (hF b hf).1 hb.size,by rw[hb.block b (hF b hf).1];exact(hF b hf).2⟩⟩
theorem zGs (t:Tree):zDe (NW A t):=fun _ _ _ h hb=>h.below hb
theorem zJQ (t:List Tree):zDe (KW A t):=fun _ _ _ h hb=>h.below hb
theorem NW.kids {t:Tree} {v:Value} {W:World} (h:NW A t v W):∃ u,v=zAf t.d u∧KW A t.kids u W:=by
 obtain⟨p,c,F,rfl,h,hF⟩:=h;exact⟨_,rfl,p,c,F,rfl,h,hF⟩
theorem NW.leaf (d:NodeD) (W:World):NW A (.mk d []) (zAf d nilS) W:=⟨none,0,fun _=>False,rfl,ForestR.nil ..,fun _ h=>h.elim⟩
end
theorem zDO {V:World} {g:Nat} {cs:Array Value} {T:TypeId} {f:Nat × Nat} {xs:List TV} {F:Nat→Prop} (h:V.heap[g]?=some (.cells cs T f)) (hc:cs=(zAQ (xs.map zAj)).toArray) (hn:xs.length≤1000000) (hk:ListR V F xs):ForestR V (fun b=>b=g∨F b) (some ⟨g,0,none⟩) xs.length (xs.map (·.1)):=by
 refine .mk _ _ _ xs ⟨some ⟨g,0,none⟩,xs.length,by simp,by simp,by unfold maxLen;omega,(fun h=>by cases h),fun j r hr=>⟨g,0,rfl,.inl rfl,zBp xs r (List.mem_of_getElem? hr),fun k hk=>?_⟩⟩ (hk.mono fun _ h=>.inr h) rfl
 rw[Nat.zero_add,cell_of_row V g _ cs T f h,hc,List.getElem?_toArray];exact zDd (zBp xs) hr hk
section
variable {A:Nat→Option Obj→Prop}
theorem KW.of_alloc {w:World} {ts:List Tree} {vs:List Value} (h:∀ (i:Nat) (t:Tree),ts[i]?=some t→∃ v,vs[i]?=some v∧NW A t v w) (hn:ts.length≤1000000) {cs:Array Value} (hc:cs=(vs.flatMap fun v=>v.cells.toList).toArray) (hl:vs.length=ts.length) (hA:A w.heap.size (some (.cells cs 31 (0,0)))) :
  KW A ts (.slice (some ⟨w.heap.size,0,none⟩) ts.length ts.length) (w.alloc (.cells cs 31)):=by
 have key:∀ (ts:List Tree) (vs:List Value),(∀ (i:Nat) (t:Tree),ts[i]?=some t→∃ v,vs[i]?=some v∧NW A t v w)→vs.length=ts.length→∃ xs:List TV,xs.map (·.1)=ts∧(vs.flatMap fun v=>v.cells.toList)=zAQ (xs.map zAj)∧∃ F:Nat→Prop,ListR w F xs∧∀ b,F b→b<w.heap.size∧A b w.heap[b]?:=by
  intro ts
  induction ts with
  | nil =>
   intro vs _ hl;obtain rfl:vs=[]:=List.length_eq_zero_iff.1 hl;exact⟨[],rfl,rfl,fun _=>False,ListR.nil _ _,fun _ h=>h.elim⟩
  | cons t r ih =>
   intro vs h hl
   cases vs with
   | nil=>cases hl
   | cons v vs =>
    obtain⟨xs,e1,e2,F,h1,h2⟩:=ih vs (fun i t ht=>h (i+1) t (by simpa using ht)) (by simpa using hl)
    obtain⟨u,hu,p,c,G,rfl,g1,g2⟩:=h 0 t rfl;simp at hu;subst hu;refine⟨(t,p,c)::xs,by simp[e1],?_,fun b=>F b∨G b,?_,fun b hb=>hb.elim (h2 b) (g2 b)⟩
    ·rw[List.flatMap_cons,e2];simp[zAQ,zAj,Value.cells]
    ·intro x hx;rcases List.mem_cons.1 hx with rfl|hx
     ·exact g1.mono fun _ h=>.inr h
     ·exact(h1 x hx).mono fun _ h=>.inl h
 obtain⟨xs,e1,e2,F,h1,h2⟩:=key ts vs h hl;subst e1;rw[List.length_map]at hn ⊢;refine⟨_,xs.length,fun b=>b=w.heap.size∨F b,by rw[List.length_map],?_,?_⟩
 ·refine zDO (World.alloc_heap_new w _) (by rw[hc,e2]) hn (h1.kept fun b hb=>?_)
  exact((Below.refl _ w).alloc (Nat.le_refl _) _).block b (h2 b hb).1
 ·intro b hb;have hs:w.heap.size<(w.alloc (.cells cs 31)).heap.size:=(Array.getElem?_eq_some_iff.1 (World.alloc_heap_new w _)).1;rcases hb with rfl|hb
  ·exact⟨hs,by rw[World.alloc_heap_new];exact hA⟩
  ·have hlt:=(h2 b hb).1;exact⟨by omega,by rw[((Below.refl _ w).alloc (Nat.le_refl _) _).block b hlt];exact(h2 b hb).2⟩
theorem zMC (d:NodeD) (s:Value) (W:World):(Instr.buildSlice 29 1 #[(0,zAf d s)]).run Tryd.prog W=.ok (.slice (some ⟨W.heap.size,0,none⟩) 1 1) (W.alloc (.cells (([zAf d s].flatMap fun v=>v.cells.toList).toArray) 31)):=by kernel_rfl
theorem zL1 (d:NodeD) (s:Value) (d1:NodeD) (s1:Value) (W:World):(Instr.buildSlice 29 2 #[(0,zAf d s),(1,zAf d1 s1)]).run Tryd.prog W=.ok (.slice (some ⟨W.heap.size,0,none⟩) 2 2) (W.alloc (.cells (([zAf d s,zAf d1 s1].flatMap fun v=>v.cells.toList).toArray) 31)):=by kernel_rfl
theorem zL0 (d:NodeD) (s:Value) (d1:NodeD) (s1:Value) (d2:NodeD) (s2:Value) (W:World):(Instr.buildSlice 29 3 #[(0,zAf d s),(1,zAf d1 s1),(2,zAf d2 s2)]).run Tryd.prog W=.ok (.slice (some ⟨W.heap.size,0,none⟩) 3 3) (W.alloc (.cells (([zAf d s,zAf d1 s1,zAf d2 s2].flatMap fun v=>v.cells.toList).toArray) 31)):=by kernel_rfl
theorem zQk {t:Tree} {v:Value} {w:World} (h:NW A t v w) (hA:∀ cs:Array Value,(∃ s,cs=zAH t.d s)→A w.heap.size (some (.cells cs 31 (0,0)))):∃ cs,(Instr.buildSlice 29 1 #[(0,v)]).run Tryd.prog w=.ok (.slice (some ⟨w.heap.size,0,none⟩) 1 1) (w.alloc (.cells cs 31))∧KW A [t] (.slice (some ⟨w.heap.size,0,none⟩) 1 1) (w.alloc (.cells cs 31)):=by
 obtain⟨u,rfl,_⟩:=h.kids;refine⟨_,zMC t.d u w,KW.of_alloc (ts:=[t]) (vs:=[zAf t.d u]) (fun i x hx=>?_) (by simp) rfl rfl (hA _ ⟨u,by simp[Value.cells]⟩)⟩
 match i,hx with
 | 0,hx=>cases hx;exact⟨_,rfl,h⟩
theorem zQf {t t1:Tree} {v v1:Value} {w:World} (h:NW A t v w) (h1:NW A t1 v1 w) (hA:∀ cs:Array Value,cs.size=20→A w.heap.size (some (.cells cs 31 (0,0)))):∃ cs,(Instr.buildSlice 29 2 #[(0,v),(1,v1)]).run Tryd.prog w=.ok (.slice (some ⟨w.heap.size,0,none⟩) 2 2) (w.alloc (.cells cs 31))∧KW A [t,t1] (.slice (some ⟨w.heap.size,0,none⟩) 2 2) (w.alloc (.cells cs 31)):=by
 obtain⟨u,rfl,_⟩:=h.kids;obtain⟨u1,rfl,_⟩:=h1.kids;refine⟨_,zL1 t.d u t1.d u1 w,KW.of_alloc (ts:=[t,t1]) (vs:=[zAf t.d u,zAf t1.d u1]) (fun i x hx=>?_) (by simp) rfl rfl (hA _ rfl)⟩
 match i,hx with
 | 0,hx=>cases hx;exact⟨_,rfl,h⟩
 | 1,hx=>cases hx;exact⟨_,rfl,h1⟩
end
section
variable {ops:Array Oper} {o:Oper} {a:Act} {w:World} {D:Prop} {A:Nat→Option Obj→Prop}
theorem zOI {t0:Tree} {x0:Operand} (hg:Region.wanted o (yielded ops a.tmps)=true) (hop:o.op=.buildSlice 29 1 #[(0,x0)]) (h0:NW A t0 (a.eval x0) w) (hA:∀ cs:Array Value,(∃ s,cs=zAH t0.d s)→A w.heap.size (some (.cells cs 31 (0,0)))) (hD:¬ D:=by decide):zBW Tryd.prog ops o a w (fun v w'=>KW A [t0] v w'∧(D→w.heap.size≤blk v)):=by
 obtain⟨cs,e,h⟩:=zQk h0 hA;refine zCt hg (v:=.slice (some ⟨w.heap.size,0,none⟩) 1 1) (w':=w.alloc (.cells cs 31)) ?_ ((Below.refl _ w).alloc (Nat.le_refl _) _) ⟨h,fun h=>(hD h).elim⟩
 simp only[execOp,hop,List.map_toArray,List.map_cons,List.map_nil,Sem.run_bind,e,Result.andThen_ok];rfl
theorem zGV {t0 t1:Tree} {x0 x1:Operand} (hg:Region.wanted o (yielded ops a.tmps)=true) (hop:o.op=.buildSlice 29 2 #[(0,x0),(1,x1)]) (h0:NW A t0 (a.eval x0) w) (h1:NW A t1 (a.eval x1) w) (hA:∀ cs:Array Value,cs.size=20→A w.heap.size (some (.cells cs 31 (0,0)))) (hD:¬ D:=by decide):zBW Tryd.prog ops o a w (fun v w'=>KW A [t0,t1] v w'∧(D→w.heap.size≤blk v)):=by
 obtain⟨cs,e,h⟩:=zQf h0 h1 hA;refine zCt hg (v:=.slice (some ⟨w.heap.size,0,none⟩) 2 2) (w':=w.alloc (.cells cs 31)) ?_ ((Below.refl _ w).alloc (Nat.le_refl _) _) ⟨h,fun h=>(hD h).elim⟩
 simp only[execOp,hop,List.map_toArray,List.map_cons,List.map_nil,Sem.run_bind,e,Result.andThen_ok];rfl
theorem zJn {t:Tree} {v:Value} (hg:Region.wanted o (yielded ops a.tmps)=true) (hr:(execOp a.eval o).run Tryd.prog w=.ok (.value v) w) (h:NW A t v w) (hD:¬ D:=by decide):zBW Tryd.prog ops o a w (fun v w'=>NW A t v w'∧(D→w.heap.size≤blk v)) :=
 zCt hg hr (Below.refl _ w) ⟨h,fun h=>(hD h).elim⟩
theorem zDz {t:Tree} {x:Operand} {b:Nat} {s:Value} (hg:Region.wanted o (yielded ops a.tmps)=true) (hop:o.op=.load 31 x) (hx:a.eval x=.pointer (some ⟨b,0,none⟩)) (hv:w.heap[b]?=some (.cells (zAH t.d s) 31 (0,0))) (h:NW A t (zAf t.d s) w) (hD:¬ D:=by decide) :
  zBW Tryd.prog ops o a w (fun v w'=>NW A t v w'∧(D→w.heap.size≤blk v)) :=
 zJn hg (zBc hop hx zAN rfl fun j _=>by rw[Nat.zero_add,cell_of_row w b _ _ _ _ hv]) h hD
end
end
section
open Go.RowKit
theorem zEM {A B:Str} (h:NoB (A++B)):NoB A∧NoB B:=by
 refine⟨fun k=>?_,fun k=>?_⟩
 ·cases hk:atP A k [91,58] with
  | false=>rfl
  | true =>
   have h1:=h k;unfold atP at hk h1;have h2:([91,58]:Str) <+: A.drop k:=List.isPrefixOf_iff_prefix.1 hk;have h3:([91,58]:Str) <+: (A++B).drop k:=by
    rw[List.drop_append];exact h2.trans (List.prefix_append _ _)
   rw[List.isPrefixOf_iff_prefix.2 h3]at h1;exact h1
 ·have h1:=h (A.length+k)
  rwa [zIC]at h1
mutual
theorem zG5 (k:Nat):∀ t:Tree,zBJ (numT k t)=zBJ t
 | .mk d ks=>by simp only[numT,zBJ,zHg k ks]
theorem zHg (k:Nat):∀ ts:List Tree,zAw (zHT k ts)=zAw ts
 | []=>rfl
 | t::r=>by simp only[zHT,zAw,zG5 k t,zHg k r]
end
def repS:Nat→Str
 | 0=>[42]
 | 1=>[43,63]
 | _=>[123,50,44,53,125]
def repD:Nat→NodeD
 | 0=>{kind:=6,hi := -1}
 | 1=>{kind:=6,lo:=1,hi := -1,lazy:=true}
 | _=>{kind:=6,lo:=2,hi:=5}
theorem zNa (j:Nat):(repS j).length≤5:=by
 match j with
 | 0=>decide
 | 1=>decide
 | j+2=>show ([123,50,44,53,125]:Str).length≤5;decide
section
variable {A B:Str} {f:zAW} {n m:Tree} {i k:Nat}
theorem zNK (hN:NoB (A++B)) (h1:zA7 A f=.ok (n,i)) (h2:zA7 B f=.ok (m,k)):zBv (((([40,63,58]++A)++[41,40,63,58])++B)++[41]) f (.mk {kind:=4} [n,numT i m]) (i+k):=by
 have h:=zMR (zEM hN).1 (zEM hN).2 h1 h2
 simpa using h
theorem zM7 (hN:NoB (A++B)) (h1:zA7 A f=.ok (n,i)) (h2:zA7 B f=.ok (m,k)):zBv (((([40,63,58]++A)++[41,124,40,63,58])++B)++[41]) f (.mk {kind:=5} [n,numT i m]) (i+k):=by
 have h:=zNI (zEM hN).1 (zEM hN).2 h1 h2
 simpa using h
theorem zMK (hN:NoB (A++B)) (h1:zA7 A f=.ok (n,i)):zBv (([40,63,58]++A)++[41]) f n i:=by
 have h:=zMJ (zEM hN).1 h1
 simpa using h
theorem zNB (hN:NoB (A++B)) (h1:zA7 A f=.ok (n,i)) {j:Nat} (hj:j<3):zBv ((([40,63,58]++A)++[41])++repS j) f (.mk (repD j) [n]) i:=by
 match j,hj with
 | 0,_=>have h:=zGZ (zEM hN).1 h1 rfl zPn;simpa [repS,repD,repT] using h
 | 1,_=>have h:=zGZ (zEM hN).1 h1 rfl zOx;simpa [repS,repD,repT] using h
 | 2,_=>have h:=zGZ (zEM hN).1 h1 rfl zP4;simpa [repS,repD,repT] using h
theorem zND (hN:NoB (A++B)) (h1:zA7 A f=.ok (n,i)):zBv (([40]++A)++[41]) f (.mk {kind:=7,group:=1} [numT 1 n]) (i+1):=by
 have h:=zMv (zEM hN).1 h1
 simpa [zDK] using h
theorem zJJ (h:zA7 A f=.ok (n,i)):A.length≤1000:=by
 unfold zA7 zCJ at h
 by_cases hl:1000<A.length
 ·rw[if_pos hl]at h;cases h
 ·omega
end
end
end Go.Proofs.YtklcgfkdemifcaaDoor
