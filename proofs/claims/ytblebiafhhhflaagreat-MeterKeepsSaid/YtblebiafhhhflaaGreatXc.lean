/- Operations of the machine, one by one, in the order of the text and in any order. Memory that a call has made: known, and written by nobody; or a row that is still written. The part of meter.Change that copies the catalogue's tables: its operations. -/
import Derived.Test.YtblebiafhhhflaaGreatT
import Derived.Test.YtblebiafhhhflaaGreatG1
namespace Go.Proofs.YtblebiafhhhflaaGreat
open Go.RowKit
def coreO (o:Oper):Option Nat × Op × Bool:=(o.dst,o.op,o.guard.isNone)
def aftO (o:Oper):List Nat:=o.after.toList.filterMap fun e => if Region.binds .any e then some e.on else none
abbrev opsL (l:List (Option Nat × Op)):List (Option Nat × Op × Bool):=l.map fun q => (q.1,q.2,true)
theorem core_at {ops:Array Oper} {l:List (Option Nat × Op)} (h:ops.toList.map coreO = opsL l) {k:Nat} {d:Option Nat} {p:Op} (hk:l[k]? = some (d,p)):∃ o,ops[k]? = some o ∧ o.dst = d ∧ o.op = p ∧ o.guard = none:=by
 have h1:(ops.toList.map coreO)[k]? = some (d,p,true):=by rw [h,List.getElem?_map,hk]; rfl
 rw [List.getElem?_map] at h1
 obtain ⟨o,ho,he⟩:=Option.map_eq_some_iff.1 h1
 simp only [coreO,Prod.mk.injEq] at he
 exact ⟨o,by simpa using ho,he.1,he.2.1,by simpa using he.2.2⟩
theorem core_size {ops:Array Oper} {l:List (Option Nat × Op)} (h:ops.toList.map coreO = opsL l):ops.size = l.length:=by
 have:=congrArg List.length h
 simpa using this
theorem aft_at {ops:Array Oper} {l:List (List Nat)} (h:ops.toList.map aftO = l) {j:Nat} {o:Oper} (ho:ops[j]? = some o) {e:Nat}:e ∈ l.getD j [] ↔ ∃ x ∈ o.after,Region.binds .any x = true ∧ x.on = e:=by
 have h1:l[j]? = some (aftO o):=by rw [← h,List.getElem?_map]; simp [ho]
 rw [List.getD_eq_getElem?_getD,h1]
 simp [aftO]
def openN (listed:Array Bool) (n:Nat):Nat:=(List.range n).countP fun j => !listed.getD j true
theorem countP_less {p q:Nat → Bool} (h:∀ i,q i = true → p i = true) {j:Nat} (hp:p j = true) (hq:q j = false):∀ {l:List Nat},j ∈ l → l.countP q < l.countP p:=by
 intro l
 induction l with
 | nil => intro hj; cases hj
 | cons x r ih =>
  intro hj
  have hm:r.countP q ≤ r.countP p:=List.countP_mono_left fun i _ => h i
  rw [List.countP_cons,List.countP_cons]
  by_cases hx:x = j
  ·subst hx; rw [hp,hq]; simp; omega
  ·have:=ih ((List.mem_cons.1 hj).resolve_left (Ne.symm hx))
   cases hqx:q x
   ·simp; split <;> omega
   ·rw [h x hqx]; simp; omega
def Cl (al:List (List Nat)) (listed:Array Bool):Prop:=∀ i,listed.getD i false = true → ∀ e ∈ al.getD i [],listed.getD e false = true
theorem any_inv {ro:Option Nat} {ops:Array Oper} {Q:Exit → Act → World → Prop} {P:Program} {al:List (List Nat)} (Inv:Array Bool → Act → World → Prop) (hal:ops.toList.map aftO = al) (hlt:(List.range al.length).all (fun j => (al.getD j []).all fun e => decide (e < j)) = true)
  (hstep:∀ (listed:Array Bool) (a:Act) (w:World) (j:Nat),j < ops.size → Inv listed a w → Cl al listed → listed.getD j false = false → (∀ e ∈ al.getD j [],listed.getD e false = true) → listed.size = ops.size → wpOpIn (Fr ro) 0 P ops Q j (Inv (listed.setIfInBounds j true)) a w)
  (hend:∀ (listed:Array Bool) (a:Act) (w:World),(∀ j,j < ops.size → listed.getD j false = true) → Inv listed a w → Q .normal a w) :
  ∀ (k:Nat) (listed:Array Bool) (a:Act) (w:World),listed.size = ops.size → openN listed ops.size ≤ k → Cl al listed → Inv listed a w → wpAnyIn (Fr ro) 0 P .any ops Q k listed a w:=by
 have hsz:al.length = ops.size:=by rw [← hal]; simp
 have both:∀ (listed:Array Bool) (j:Nat),listed.size = ops.size → j < ops.size → (listed.getD j true = false ↔ listed.getD j false ≠ true):=by
  intro listed j hl hj
  simp only [Array.getD,dif_pos (by omega:j < listed.size)]
  simp
 have hall:∀ listed:Array Bool,listed.size = ops.size → Region.ready .any ops listed = [] → ∀ j,j < ops.size → listed.getD j false = true:=by
  intro listed hl hr j
  induction j using Nat.strongRecOn with
  | _ j ih =>
   intro hj
   cases hg:listed.getD j false with
   | true => rfl
   | false =>
    exfalso
    have hm:j ∈ Region.ready .any ops listed:=by
     refine mem_ready.2 ⟨(both listed j hl hj).2 (by simp [hg]),ops[j],Array.getElem?_eq_getElem hj,fun e he hb => ?_⟩
     have h1:=(aft_at hal (Array.getElem?_eq_getElem hj)).2 ⟨e,he,hb,rfl⟩
     have h2:=List.all_eq_true.1 hlt j (List.mem_range.2 (by omega))
     have h3:=of_decide_eq_true (List.all_eq_true.1 h2 _ h1)
     exact ih e.on h3 (by omega)
    rw [hr] at hm; cases hm
 intro k
 induction k with
 | zero =>
  intro listed a w hl hk _ hi
  have hr:Region.ready .any ops listed = []:=by
   rw [List.eq_nil_iff_forall_not_mem]
   intro j hj
   obtain ⟨h1,o,ho,_⟩:=mem_ready.1 hj
   have hjl:=(Array.getElem?_eq_some_iff.1 ho).1
   have h2:openN listed ops.size = 0:=Nat.le_zero.1 hk
   have:=List.countP_eq_zero.1 h2 j (List.mem_range.2 hjl)
   simp [h1] at this
  exact ⟨hr,hend listed a w (hall listed hl hr) hi⟩
 | succ k ih =>
  intro listed a w hl hk hcl hi
  refine ⟨fun hr => hend listed a w (hall listed hl hr) hi,fun j hj => ?_⟩
  obtain ⟨h1,o,ho,h3⟩:=mem_ready.1 hj
  have hjl:=(Array.getElem?_eq_some_iff.1 ho).1
  have hdep:∀ e ∈ al.getD j [],listed.getD e false = true:=fun e he => by
   obtain ⟨x,hx,hb,rfl⟩:=(aft_at hal ho).1 he
   exact h3 x hx hb
  refine wpOpIn_mono (fun a w h => ih _ a w (by simp [hl]) ?_ (fun i hi e he => ?_) h) (hstep listed a w j hjl hi hcl (by simpa using (both listed j hl hjl).1 h1) hdep hl)
  ·have:openN (listed.setIfInBounds j true) ops.size < openN listed ops.size:=by
    refine countP_less (j:=j) (fun i hi => ?_) (by simp [h1]) (by simp [Array.getD,hl,hjl]) (List.mem_range.2 hjl)
    by_cases hij:j = i
    ·subst hij; simp [h1]
    ·simpa [getD_set_ne true hij] using hi
   omega
  ·refine getD_set_true ?_
   by_cases hij:i = j
   ·rw [hij] at he; exact hdep e he
   ·rw [getD_set_ne false (Ne.symm hij)] at hi; exact hcl i hi e he
theorem any_region {ro:Option Nat} {ops:Array Oper} {Q:Exit → Act → World → Prop} {al:List (List Nat)} (Inv:Array Bool → Act → World → Prop) (hal:ops.toList.map aftO = al) (hlt:(List.range al.length).all (fun j => (al.getD j []).all fun e => decide (e < j)) = true)
  (hstep:∀ (listed:Array Bool) (a:Act) (w:World) (j:Nat),j < ops.size → Inv listed a w → Cl al listed → listed.getD j false = false → (∀ e ∈ al.getD j [],listed.getD e false = true) → listed.size = ops.size → wpOpIn (Fr ro) 0 Tryz.prog ops Q j (Inv (listed.setIfInBounds j true)) a w)
  (hend:∀ (listed:Array Bool) (a:Act) (w:World),(∀ j,j < ops.size → listed.getD j false = true) → Inv listed a w → Q .normal a w) {id:Nat} {a:Act} {w:World} (h0:Inv (Array.replicate ops.size false) a w.drew):(Code.region id ops true).wpIn (Fr ro) 0 Tryz.prog Q a w:=by
 refine wpIn_region_any mixed (any_inv Inv hal hlt hstep hend ops.size _ a _ (by simp) ?_ (fun i hi => ?_) h0)
 ·have:=List.countP_le_length (p:=fun j => !(Array.replicate ops.size false).getD j true) (l:=List.range ops.size)
  simpa [openN] using this
 ·exfalso
  by_cases hj:i < ops.size <;> simp [Array.getD,hj] at hi
section
variable {ro:Option Nat} {a:Act} {w w':World} {ops:Array Oper} {l:List (Option Nat × Op)} {Q:Exit → Act → World → Prop} {k m:Nat} {d:Option Nat} {p:Op} {N:Act → World → Prop}
theorem anyV (h:ops.toList.map coreO = opsL l) (hk:l[k]? = some (d,p)) {cv:Value} (hr:∀ o:Oper,o.op = p → (execOp a.eval o).run Tryz.prog w = .ok (.value cv) w') (hn:N (a.put d cv) w'):wpOpIn (Fr ro) 0 Tryz.prog ops Q k N a w:=by
 obtain ⟨o,h1,h2,h3,h4⟩:=core_at h hk
 unfold wpOpIn
 simp only [h1]
 rw [if_pos (by simp [Region.wanted,h4])]
 exact wp_val (hr o h3) (by rw [h2]; exact hn)
theorem anyS (h:ops.toList.map coreO = opsL l) (hk:l[k]? = some (none,p)) (hr:∀ o:Oper,o.op = p → (execOp a.eval o).run Tryz.prog w = .ok .skip w') (hn:N a w'):wpOpIn (Fr ro) 0 Tryz.prog ops Q k N a w:=by
 obtain ⟨o,h1,h2,h3,h4⟩:=core_at h hk
 unfold wpOpIn
 simp only [h1]
 rw [if_pos (by simp [Region.wanted,h4])]
 exact wp_skp (hr o h3) (by rw [h2]; exact hn)
theorem anyC {f:FuncId} {vs:Array Value} (h:ops.toList.map coreO = opsL l) (hk:l[k]? = some (d,p)) (hr:∀ o:Oper,o.op = p → (execOp a.eval o).run Tryz.prog w = .ok (.enter f vs) w)
  (hc:Calls Tryz.prog f vs w (fun e w' => ∃ cv,e = .returned cv ∧ N (a.put d cv) w')):wpOpIn (Fr ro) 0 Tryz.prog ops Q k N a w:=by
 obtain ⟨o,h1,h2,h3,h4⟩:=core_at h hk
 unfold wpOpIn
 simp only [h1]
 rw [if_pos (by simp [Region.wanted,h4])]
 exact wp_ent (hr o h3) (by rw [h2]; exact hc)
theorem rgV (h:ops.toList.map coreO = opsL l) (hk:l[k]? = some (d,p)) {cv:Value} (hr:∀ o:Oper,o.op = p → (execOp a.eval o).run Tryz.prog w = .ok (.value cv) w') (hn:wpOpsIn (Fr ro) 0 Tryz.prog ops Q (List.range' (k + 1) m) (a.put d cv) w') :
  wpOpsIn (Fr ro) 0 Tryz.prog ops Q (List.range' k (m + 1)) a w:=by
 obtain ⟨o,h1,h2,h3,h4⟩:=core_at h hk
 rw [List.range'_succ]
 exact wpOps_step h1 (.inl ⟨by simp [Region.wanted,h4],wp_val (hr o h3) (by rw [h2]; exact hn)⟩)
theorem stepE (hn:Q .normal a w):wpOpsIn (Fr ro) 0 Tryz.prog ops Q (List.range' k 0) a w:=hn
theorem regionOf (h:ops.toList.map coreO = opsL l) {id:Nat} (hn:wpOpsIn (Fr ro) 0 Tryz.prog ops Q (List.range' 0 l.length) a w):(Code.region id ops false).wpIn (Fr ro) 0 Tryz.prog Q a w:=by
 refine wpIn_region ?_
 rw [List.range_eq_range',core_size h]
 exact hn
theorem r_move {o:Oper} {x:Operand} {v:Value} (ho:o.op = .move x) (hx:a.eval x = v):(execOp a.eval o).run Tryz.prog w = .ok (.value v) w:=by simp [execOp,ho,hx]
theorem r_assign {o:Oper} {x:Operand} {v:Value} (ho:o.op = .assign x) (hx:a.eval x = v):(execOp a.eval o).run Tryz.prog w = .ok (.value v) w:=by simp [execOp,ho,hx]
theorem r_len {o:Oper} {x:Operand} {t e:TypeId} {q:Option Addr} {n c:Nat} (ho:o.op = .call { callee:=.builtin .len,args:=#[x],argTypes:=#[t] }) (ht:Tryz.prog.underlying t = some (.slice e)) (hx:a.eval x = .slice q n c) :
  (execOp a.eval o).run Tryz.prog w = .ok (.value (.int .i64 n)) w:=by
 simp [execOp,ho,resolve,invoke,builtin,hx,Builtin.len_,run_underlying ht]; rfl
def avI:Value → AV
 | .int k n => .int k n
 | _ => .undef
theorem avI_rv (ρ:RO) (μ:Option Lay) (v:Value):Rv ρ μ (avI v) v:=by
 cases v <;> first | exact .undef .. | exact .int ..
theorem r_lss {o:Oper} {x y:Operand} {t g:TypeId} {i j:Int} (ho:o.op = .binOp .lss t x y g) (hx:a.eval x = .int .i64 i) (hy:a.eval y = .int .i64 j) :
  (execOp a.eval o).run Tryz.prog w = .ok (.value (.bool (decide (i < j)))) w:=by
 obtain ⟨cv,h1,h2⟩:=popA_spec (P:=Tryz.prog) (e:=fun q => avI (a.eval q)) (c:=a.eval) (ρ:=fun _ => none) (μ:=none) (fun q => avI_rv _ _ _) o (v:=.bool (decide (i < j))) (by
  rw [ho]; simp only [popA,binA,hx,hy,avI,AV.isI,if_true,binI,mkB,Bool.and_false,Bool.false_eq_true,if_false]) w
 rw [h1]; cases h2; rfl
theorem r_add {o:Oper} {x y:Operand} {t g:TypeId} {i j:Int} (ho:o.op = .binOp .add t x y g) (hx:a.eval x = .int .i64 i) (hy:a.eval y = .int .i64 j) :
  (execOp a.eval o).run Tryz.prog w = .ok (.value (.int .i64 (IntKind.i64.wrap (i + j)))) w:=by
 obtain ⟨cv,h1,h2⟩:=popA_spec (P:=Tryz.prog) (e:=fun q => avI (a.eval q)) (c:=a.eval) (ρ:=fun _ => none) (μ:=none) (fun q => avI_rv _ _ _) o (v:=.int .i64 (IntKind.i64.wrap (i + j))) (by
  rw [ho]; simp only [popA,binA,hx,hy,avI,AV.isI,if_true,binI,mkI,Bool.and_false,Bool.false_eq_true,if_false]) w
 rw [h1]; cases h2; rfl
def avB (B:Nat):Value → AV
 | .pointer (some ⟨b,f,none⟩) => if b = B then .ref 0 f else .undef
 | _ => .undef
theorem avB_rv (ρ:RO) (B:Nat) (v:Value):Rv ρ (some fun _ => (B,0)) (avB B v) v:=by
 unfold avB
 split
 ·split
  ·rename_i b f hb; rw [hb]; exact .ref _ 0 f
  ·exact .undef ..
 ·exact .undef ..
theorem r_fieldA {o:Oper} {x:Operand} {s:TypeId} {f:Nat} {fs:Array Field} {fd:Field} {B off:Nat} (ho:o.op = .fieldAddr s x f) (hs:Tryz.prog.underlying s = some (.struct fs)) (hf:fs[f]? = some fd) (hz:Tryz.prog.cellsOf fd.type ≠ 0) (hu:(Tryz.prog.underlying fd.type).isSome = true)
  (hx:a.eval x = .pointer (some ⟨B,off,none⟩)):(execOp a.eval o).run Tryz.prog w = .ok (.value (.pointer (some ⟨B,off + fd.offset,none⟩))) w:=by
 have hn:(Tryz.prog.underlying fd.type).isNone = false:=by cases h:Tryz.prog.underlying fd.type <;> simp_all
 obtain ⟨cv,h1,h2⟩:=popA_spec (P:=Tryz.prog) (e:=fun q => avB B (a.eval q)) (c:=a.eval) (ρ:=fun _ => none) (μ:=some fun _ => (B,0)) (fun q => avB_rv _ B _) o (v:=.ref 0 (off + fd.offset)) (by
  rw [ho]; simp only [popA,hs,hf,hx,avB,hn,if_true,if_neg (fun h:Tryz.prog.cellsOf fd.type = 0 ∨ false = true => h.elim hz (by simp))]) w
 rw [h1]; cases h2; rfl
theorem r_nil {o:Oper} {x:Operand} {B off:Nat} (ho:o.op = .nilCheck x) (hx:a.eval x = .pointer (some ⟨B,off,none⟩)):(execOp a.eval o).run Tryz.prog w = .ok (.value (.pointer (some ⟨B,off,none⟩))) w:=by
 obtain ⟨cv,h1,h2⟩:=popA_spec (P:=Tryz.prog) (e:=fun q => avB B (a.eval q)) (c:=a.eval) (ρ:=fun _ => none) (μ:=some fun _ => (B,0)) (fun q => avB_rv _ B _) o (v:=.ref 0 off) (by
  rw [ho]; simp only [popA,hx,avB,if_true]) w
 rw [h1]; cases h2; rfl
theorem r_index {o:Oper} {x y:Operand} {t e:TypeId} {de:TypeDesc} {b oo n c i:Nat} (ho:o.op = .indexAddr t x y) (ht:Tryz.prog.underlying t = some (.slice e)) (he:Tryz.prog.underlying e = some de)
  (hx:a.eval x = .slice (some ⟨b,oo,none⟩) n c) (hy:a.eval y = .int .i64 i) (hi:i < n):(execOp a.eval o).run Tryz.prog w = .ok (.value (.pointer (some ⟨b,oo + i * Tryz.prog.cellsOf e,none⟩))) w:=by
 have h1:(0 ≤ (i:Int) ∧ (i:Int) < (n:Int)):=⟨by omega,by omega⟩
 have hr:(Instr.indexAt t (.slice (some ⟨b,oo,none⟩) n c) (.int .i64 i)).run Tryz.prog w = .ok (.pointer (some ⟨b,oo + i * Tryz.prog.cellsOf e,none⟩)) w:=by
  simp only [Instr.indexAt,asIntOf,Sem.run_bind,Sem.run_pure,Result.andThen_ok,run_underlying ht]
  rw [if_pos h1]
  simp only [Sem.run_bind,run_sizeOf' he,Result.andThen_ok,Sem.run_pure]
  rw [add_addr]; rfl
 simp only [execOp,ho,hx,hy]
 exact lift_val hr
theorem r_load {o:Oper} {x:Operand} {t:TypeId} {dt:TypeDesc} {ad:Addr} {v:Value} (ho:o.op = .load t x) (ht:Tryz.prog.underlying t = some dt) (hag:isAggT Tryz.prog t = false) (hx:a.eval x = .pointer (some ad)) (hc:w.cell? ad = some v) :
  (execOp a.eval o).run Tryz.prog w = .ok (.value v) w:=by
 have hr:(Instr.loadAt t (.pointer (some ad))).run Tryz.prog w = .ok v w:=by
  simp only [Instr.loadAt,Instr.sureAddr,Sem.run_bind,Sem.run_pure,Result.andThen_ok,loadVar,run_isAgg' ht,hag,Bool.false_eq_true,if_false,run_load,hc]
 simp only [execOp,ho,hx]
 exact lift_val hr
theorem cells1 {v:Value} (h:v.oneCell' = true):v.cells = #[v]:=by cases v <;> simp_all [Value.oneCell',Value.cells]
theorem r_store {o:Oper} {x y:Operand} {t:TypeId} {dt:TypeDesc} {b off:Nat} {cur:Array Value} {e:TypeId} {v:Value} (ho:o.op = .store t x y) (ht:Tryz.prog.underlying t = some dt) (hsz:Tryz.prog.cellsOf t = 1) (hx:a.eval x = .pointer (some ⟨b,off,none⟩)) (hb:w.heap[b]? = some (.cells cur e (0,0))) (hoff:off < cur.size)
  (hy:a.eval y = v) (h1:v.oneCell' = true):(execOp a.eval o).run Tryz.prog w = .ok .skip (w.setCell ⟨b,off,none⟩ v):=by
 subst hy
 have hcs:=cells1 h1
 have hr:(Instr.storeAt t (.pointer (some ⟨b,off,none⟩)) (a.eval y)).run Tryz.prog w = .ok () (w.setCell ⟨b,off,none⟩ (a.eval y)):=by
  simp only [Instr.storeAt,Instr.sureAddr,Sem.run_bind,Sem.run_pure,Result.andThen_ok,storeVar,run_sizeOf' ht,hsz]
  rw [hcs,if_neg (by simp)]
  have:=run_storeCells_cells (P:=Tryz.prog) b off [a.eval y] 0 w (fun j hj => by
   have hj:j = 0:=by simpa using hj
   subst hj
   simp [World.cell?,hb,hoff]) (fun j _ => by simp [World.frozen?,hb]) (fun v hv => by rw [List.mem_singleton.1 hv]; exact h1)
  exact this
 simp only [execOp,ho,hx]
 simp [hr]
theorem r_call1 {o:Oper} {f:FuncId} {x:Operand} {ts:Array TypeId} {v:Value} (hf:∀ (vs:Array Value) (w:World),(callFunc f vs).run Tryz.prog w = .ok (.enter f vs) w) (ho:o.op = .call { callee:=.value (.func f),args:=#[x],argTypes:=ts }) (hx:a.eval x = v):(execOp a.eval o).run Tryz.prog w = .ok (.enter f #[v]) w:=by
 subst hx
 simp only [execOp,ho,resolve,invoke,Deferred.ofValue,Sem.run_bind]
 simp [Act.eval,hf]
theorem ev_put {d t:Nat} {v:Value} (hs:166 < a.tmps.size) (hd:d ≤ 166):(a.put (some d) v).eval (.tmp t) = if t = d then v else a.eval (.tmp t):=by
 show (a.tmps.setIfInBounds d v).getD t Go.undef = _
 rw [setIf_getD]
 by_cases h:t = d
 ·rw [if_pos h,if_pos ⟨h,by omega⟩]
 ·rw [if_neg h,if_neg fun q => h q.1]; rfl
theorem ev_ne {d t:Nat} {v:Value} (h:t ≠ d):(a.put (some d) v).eval (.tmp t) = a.eval (.tmp t):=by
 show (a.tmps.setIfInBounds d v).getD t Go.undef = _
 rw [setIf_getD,if_neg fun q => h q.1]; rfl
theorem size_put {d:Option Nat} {v:Value}:(a.put d v).tmps.size = a.tmps.size:=by
 cases d <;> simp [Act.put]
theorem dfr_put {d:Option Nat} {v:Value}:(a.put d v).defers = a.defers:=by cases d <;> rfl
end
end Go.Proofs.YtblebiafhhhflaaGreat
namespace Go.Proofs.YtblebiafhhhflaaGreat
open Go.RowKit
structure Kn (ρ:RO) (N:Nat) (ρ':RO) (w':World):Prop where
 le:ρ.le ρ'
 ro:∀ k o,ρ' k = some o → w'.heap[k]? = some o
 new:∀ k o,ρ' k = some o → ρ k = none → N ≤ k
theorem Kn.refl {ρ:RO} {N:Nat} {w:World} (h:∀ k o,ρ k = some o → w.heap[k]? = some o):Kn ρ N ρ w:=⟨RO.le_refl _,h,fun k o h1 h2 => by rw [h2] at h1; cases h1⟩
theorem Kn.trans {ρ ρ' ρ'':RO} {N N':Nat} {w' w'':World} (h:Kn ρ N ρ' w') (h':Kn ρ' N' ρ'' w'') (hN:N ≤ N'):Kn ρ N ρ'' w'':=by
 refine ⟨h.le.trans h'.le,h'.ro,fun k o h1 h2 => ?_⟩
 cases hk:ρ' k with
 | none => exact Nat.le_trans hN (h'.new k o h1 hk)
 | some o' => exact h.new k o' hk h2
theorem Kn.none {ρ ρ':RO} {N B:Nat} {w':World} (h:Kn ρ N ρ' w') (hB:ρ B = none) (hlt:B < N):ρ' B = none:=by
 cases hk:ρ' B with
 | none => rfl
 | some o => have:=h.new B o hk hB; omega
structure Ext (X:Nat → Prop) (w w':World):Prop where
 os:w'.os = w.os
 tape:w'.tape = w.tape
 output:w'.output = w.output
 size:w.heap.size ≤ w'.heap.size
 block:∀ k,k < w.heap.size → ¬ X k → w'.heap[k]? = w.heap[k]?
theorem Ext.refl {X:Nat → Prop} (w:World):Ext X w w:=⟨rfl,rfl,rfl,Nat.le_refl _,fun _ _ _ => rfl⟩
theorem Ext.trans {X:Nat → Prop} {w w' w'':World} (h:Ext X w w') (h':Ext X w' w''):Ext X w w'' :=
 ⟨h'.os.trans h.os,h'.tape.trans h.tape,h'.output.trans h.output,Nat.le_trans h.size h'.size,fun k hk hx => (h'.block k (Nat.lt_of_lt_of_le hk h.size) hx).trans (h.block k hk hx)⟩
theorem Ext.imp {X Y:Nat → Prop} {w w':World} (h:Ext X w w') (hxy:∀ k,k < w.heap.size → X k → Y k):Ext Y w w' :=
 ⟨h.os,h.tape,h.output,h.size,fun k hk hy => h.block k hk fun hx => hy (hxy k hk hx)⟩
theorem Ext.of_below {X:Nat → Prop} {w w':World} (h:Below w.heap.size w w'):Ext X w w':=⟨h.os,h.tape,h.output,h.size,fun k hk _ => h.block k hk⟩
theorem Ext.setCell {X:Nat → Prop} {w:World} {B p:Nat} {v:Value} (hX:X B):Ext X w (w.setCell ⟨B,p,none⟩ v) :=
 ⟨rfl,rfl,rfl,by simp [World.setCell],fun k _ hk => heap_setCell_other w _ k v (fun h => hk (by rw [h]; exact hX))⟩
def Row (ρ:RO) (N:Nat) (w:World) (es:List AV) (cv:Value):Prop :=
 (es = [] ∧ Rv ρ none (.slc 3 []) cv ∧ ∃ p cap,cv = .slice p 0 cap) ∨ ∃ (V cap:Nat) (cur:Array Value) (e:TypeId),cv = .slice (some ⟨V,0,none⟩) es.length cap ∧ 0 < es.length ∧ es.length ≤ cap ∧ N ≤ V ∧ ρ V = none ∧ w.heap[V]? = some (.cells cur e (0,0)) ∧ es.length ≤ cur.size ∧ ∀ j,Rv ρ none (es.getD j .undef) (cur.getD j Go.undef)
theorem fresh_row {ρ:RO} {w w':World} {es:List AV} {e:Ending} (h:FreshG ρ w 1 es e w') (h1:ones es = true):∃ (ρ':RO) (cv:Value),e = .returned cv ∧ Kn ρ w.heap.size ρ' w' ∧ Below w.heap.size w w' ∧ Row ρ' w.heap.size w' es cv:=by
 obtain ⟨⟨ρ',B,κ,cv,he,hle,hro,hnew,hrv,hB,hge,hlen,hcells⟩,hfr,hsz,hos,htp,hout⟩:=h
 refine ⟨ρ',cv,he,⟨hle,hro,hnew⟩,⟨hos,htp,hout,hsz,hfr⟩,?_⟩
 rw [ones_cells h1] at hlen hcells
 have hv:=hrv false
 generalize hn:es.length = n at hv
 generalize hl:(fun (_:Nat) => (B,κ)) = lay at hv
 cases hv with
 | aslc μ b off len esz ag cap hcap hr =>
  subst hl
  by_cases h0:es = []
  ·subst h0
   have hn0:n = 0:=by rw [← hn]; rfl
   subst hn0
   refine .inl ⟨rfl,?_,_,_,rfl⟩
   exact Rv.slc (ρ:=ρ') none 3 [] B 0 cap 1 (fun _ _ => Go.undef) (by decide) (by simp) (by simp) (fun i hi => by simp at hi) (fun i hi => by simp at hi) (fun i j => by cases j <;> exact .undef ..)
  ·have hp:0 < es.length:=List.length_pos_iff.2 h0
   rcases hcells with hk | ⟨c,e',hc,hcs,hrc⟩
   ·omega
   ·refine .inr ⟨B,cap,c,e',by rw [hn],hp,by omega,hge,hB,hc,by omega,hrc⟩
 | aslc0 μ b esz ag p =>
  have h0:es = []:=List.eq_nil_of_length_eq_zero hn
  subst h0
  refine .inl ⟨rfl,?_,_,_,rfl⟩
  cases p with
  | none => exact .nilslc _ _
  | some p => exact .eslc _ _ _ (by decide)
theorem Row.rv {ρ:RO} {N:Nat} {w:World} {es:List AV} {cv:Value} (h:Row ρ N w es cv) (h1:ones es = true):∃ ρ':RO,ρ.le ρ' ∧ (∀ k o,ρ' k = some o → ρ k = some o ∨ (N ≤ k ∧ w.heap[k]? = some o)) ∧ Rv ρ' none (.slc 3 es) cv:=by
 rcases h with ⟨rfl,h,-⟩ | ⟨V,cap,cur,e,rfl,hp,hcap,hV,hno,hw,hs,hr⟩
 ·exact ⟨ρ,RO.le_refl _,fun k o h => .inl h,h⟩
 ·have hle:ρ.le fun k => if k = V then w.heap[V]? else ρ k:=fun k o hk => by
   have:k ≠ V:=fun h => by rw [h,hno] at hk; cases hk
   simp only [if_neg this]; exact hk
  refine ⟨_,hle,fun k o hk => ?_,?_⟩
  ·by_cases hkV:k = V
   ·subst hkV; simp only [if_true] at hk; exact .inr ⟨hV,hk⟩
   ·simp only [if_neg hkV] at hk; exact .inl hk
  ·have hone:∀ i,i < es.length → (es.getD i .undef).cells = [es.getD i .undef]:=fun i hi => by
    have:(es.getD i .undef) ∈ es:=by rw [List.getD_eq_getElem?_getD,List.getElem?_eq_getElem hi]; exact List.getElem_mem hi
    exact one_cells (List.all_eq_true.1 h1 _ this)
   refine Rv.slc none 3 es V 0 cap 1 (fun i _ => cur.getD i Go.undef) (by decide) hcap (by simp) (fun i hi => by rw [hone i hi]; rfl) (fun i hi j hj => ?_) (fun i j => ?_)
   ·have hj:j = 0:=by omega
    subst hj
    unfold RO.cell
    simp only [if_true,hw,Nat.mul_one,Nat.zero_add,Nat.add_zero]
    rw [Array.getD,dif_pos (by omega)]; exact Array.getElem?_eq_getElem (by omega)
   ·by_cases hi:i < es.length
    ·rw [hone i hi]
     cases j with
     | zero => exact (hr i).mono hle
     | succ j => exact .undef ..
    ·rw [getD_le (l:=es) (by omega)]
     cases j <;> exact .undef ..
theorem Row.same {ρ:RO} {N:Nat} {w w':World} {es:List AV} {cv:Value} (h:Row ρ N w es cv) (hb:∀ k,N ≤ k → k < w.heap.size → w'.heap[k]? = w.heap[k]?):Row ρ N w' es cv :=
 h.imp id fun ⟨V,cap,cur,e,h1,h2,h3,h4,h5,h6,h7⟩ => ⟨V,cap,cur,e,h1,h2,h3,h4,h5,by rw [hb V h4 (Array.getElem?_eq_some_iff.1 h6).1]; exact h6,h7⟩
theorem fresh_rv {ρ:RO} {w w':World} {es:List AV} {e:Ending} (h:FreshG ρ w 1 es e w') (h1:ones es = true):∃ (ρ':RO) (cv:Value),e = .returned cv ∧ Kn ρ w.heap.size ρ' w' ∧ Below w.heap.size w w' ∧ Rv ρ' none (.slc 3 es) cv:=by
 obtain ⟨ρ',cv,he,hk,hb,hr⟩:=fresh_row h h1
 obtain ⟨ρ'',hle,hor,hv⟩:=hr.rv h1
 refine ⟨ρ'',cv,he,⟨hk.le.trans hle,fun k o h => (hor k o h).elim (hk.ro k o) (fun h => h.2),fun k o h h0 => (hor k o h).elim (fun h => hk.new k o h h0) (fun h => h.1)⟩,hb,hv⟩
theorem one_slice {ρ:RO} {es:List AV} {v:Value} (h:Rv ρ none (.slc 3 es) v):v.oneCell' = true:=by
 cases h <;> rfl
theorem Row.one {ρ:RO} {N:Nat} {w:World} {es:List AV} {cv:Value} (h:Row ρ N w es cv):cv.oneCell' = true:=by
 rcases h with ⟨-,-,p,cap,rfl⟩ | ⟨V,cap,cur,e,rfl,-⟩ <;> rfl
end Go.Proofs.YtblebiafhhhflaaGreat
namespace Go.Proofs.YtblebiafhhhflaaGreat
open Go.RowKit
def findR (id:Nat):Code → Array Oper
 | .region i o _ => if i = id then o else #[]
 | .seq a b | .cond _ a b | .rangeFunc _ _ a b => if (findR id a).isEmpty then findR id b else findR id a
 | .block _ b | .loop b | .scope b => findR id b
 | _ => #[]
def bodyOf (f:Func):Code:=f.body.getD .skip
def bodyI (r21 r22 r23 r24:Array Oper):Code:=.seq (.region 21 r21 false) (.seq (.cond (.tmp 149) .skip (.exit 3)) (.seq (.block 4 (.seq (.region 22 r22 false) (.region 23 r23 true))) (.region 24 r24 false)))
def bodyT (r16 r17 r18 r19 r20 r21 r22 r23 r24 r25:Array Oper):Code:=.seq (.region 16 r16 false) (.seq (.cond (.tmp 111) .skip (.exit 1)) (.seq (.block 2 (.seq (.region 17 r17 false) (.seq (.region 18 r18 false) (.seq (.region 19 r19 true) (.seq (.region 20 r20 false) (.block 3 (.loop (bodyI r21 r22 r23 r24)))))))) (.region 25 r25 false)))
def hookC (r15 r16 r17 r18 r19 r20 r21 r22 r23 r24 r25:Array Oper):Code:=.seq (.region 15 r15 false) (.block 1 (.loop (bodyT r16 r17 r18 r19 r20 r21 r22 r23 r24 r25)))
def lenC (t:Nat) (e:TypeId):Op:=.call { callee:=.builtin .len,args:=#[.tmp t],argTypes:=#[e] }
def cloneC (f t:Nat) (e:TypeId):Op:=.call { callee:=.value (.func f),args:=#[.tmp t],argTypes:=#[e] }
def l15:List (Option Nat × Op):=[(some 105,.move (.tmp 18)),(some 106,.nilCheck (.tmp 105)),(some 107,.fieldAddr 29 (.tmp 106) 0),(some 108,.load 26 (.tmp 107)),(some 109,lenC 108 26),(some 110,.move (.const (.int .i64 0)))]
def l16:List (Option Nat × Op):=[(some 111,.binOp .lss 3 (.tmp 110) (.tmp 109) 3)]
def l17:List (Option Nat × Op):=[(some 112,.move (.tmp 110)),(some 19,.assign (.tmp 112))]
def l18:List (Option Nat × Op):=[(some 113,.move (.tmp 18)),(some 114,.nilCheck (.tmp 113)),(some 115,.fieldAddr 29 (.tmp 114) 0),(some 116,.load 26 (.tmp 115)),(some 117,.move (.tmp 19)),(some 118,.indexAddr 26 (.tmp 116) (.tmp 117)),(some 20,.assign (.tmp 118))]
def l19:List (Option Nat × Op):=[(some 119,.move (.tmp 20)),(some 120,.move (.tmp 20)),(some 121,.move (.tmp 20)),(some 122,.move (.tmp 20)),(some 123,.nilCheck (.tmp 122)),(some 124,.fieldAddr 135 (.tmp 123) 1),(some 125,.load 61 (.tmp 124)),(some 126,cloneC 55 125 61),
 (some 127,.move (.tmp 20)),(some 128,.nilCheck (.tmp 127)),(some 129,.fieldAddr 135 (.tmp 128) 2),(some 130,.load 61 (.tmp 129)),(some 131,cloneC 55 130 61),(some 132,.move (.tmp 20)),(some 133,.nilCheck (.tmp 132)),(some 134,.fieldAddr 135 (.tmp 133) 3),(some 135,.load 133 (.tmp 134)),(some 136,cloneC 56 135 133),
 (some 137,.nilCheck (.tmp 119)),(some 138,.fieldAddr 135 (.tmp 137) 1),(none,.store 61 (.tmp 138) (.tmp 126)),(some 139,.nilCheck (.tmp 120)),(some 140,.fieldAddr 135 (.tmp 139) 2),(none,.store 61 (.tmp 140) (.tmp 131)),(some 141,.nilCheck (.tmp 121)),(some 142,.fieldAddr 135 (.tmp 141) 3),(none,.store 133 (.tmp 142) (.tmp 136))]
def l20:List (Option Nat × Op):=[(some 143,.move (.tmp 20)),(some 144,.nilCheck (.tmp 143)),(some 145,.fieldAddr 135 (.tmp 144) 3),(some 146,.load 133 (.tmp 145)),(some 147,lenC 146 133),(some 148,.move (.const (.int .i64 0)))]
def l21:List (Option Nat × Op):=[(some 149,.binOp .lss 3 (.tmp 148) (.tmp 147) 3)]
def l22:List (Option Nat × Op):=[(some 150,.move (.tmp 148)),(some 21,.assign (.tmp 150))]
def l23:List (Option Nat × Op):=[(some 151,.move (.tmp 20)),(some 152,.nilCheck (.tmp 151)),(some 153,.fieldAddr 135 (.tmp 152) 3),(some 154,.load 133 (.tmp 153)),(some 155,.move (.tmp 21)),(some 156,.move (.tmp 20)),(some 157,.nilCheck (.tmp 156)),(some 158,.fieldAddr 135 (.tmp 157) 3),(some 159,.load 133 (.tmp 158)),
 (some 160,.move (.tmp 21)),(some 161,.indexAddr 133 (.tmp 159) (.tmp 160)),(some 162,.load 61 (.tmp 161)),(some 163,cloneC 55 162 61),(some 164,.indexAddr 133 (.tmp 154) (.tmp 155)),(none,.store 61 (.tmp 164) (.tmp 163))]
def l24:List (Option Nat × Op):=[(some 165,.binOp .add 3 (.tmp 148) (.const (.int .i64 1)) 3),(some 148,.move (.tmp 165))]
def l25:List (Option Nat × Op):=[(some 166,.binOp .add 3 (.tmp 110) (.const (.int .i64 1)) 3),(some 110,.move (.tmp 166))]
theorem o15:(findR 15 (bodyOf Tryz.f23)).toList.map coreO = opsL l15:=by kernel_rfl
theorem o16:(findR 16 (bodyOf Tryz.f23)).toList.map coreO = opsL l16:=by kernel_rfl
theorem o17:(findR 17 (bodyOf Tryz.f23)).toList.map coreO = opsL l17:=by kernel_rfl
theorem o18:(findR 18 (bodyOf Tryz.f23)).toList.map coreO = opsL l18:=by kernel_rfl
theorem o19:(findR 19 (bodyOf Tryz.f23)).toList.map coreO = opsL l19:=by kernel_rfl
theorem o20:(findR 20 (bodyOf Tryz.f23)).toList.map coreO = opsL l20:=by kernel_rfl
theorem o21:(findR 21 (bodyOf Tryz.f23)).toList.map coreO = opsL l21:=by kernel_rfl
theorem o22:(findR 22 (bodyOf Tryz.f23)).toList.map coreO = opsL l22:=by kernel_rfl
theorem o23:(findR 23 (bodyOf Tryz.f23)).toList.map coreO = opsL l23:=by kernel_rfl
theorem o24:(findR 24 (bodyOf Tryz.f23)).toList.map coreO = opsL l24:=by kernel_rfl
theorem o25:(findR 25 (bodyOf Tryz.f23)).toList.map coreO = opsL l25:=by kernel_rfl
def a19:List (List Nat):=[[],[],[],[],[3],[4],[5],[6],[],[8],[9],[10],[11,7],[],[13],[14],[15],[16,12],[0,0,3,4,5,6,7,11,12,16,17],[18,0,3,4,5,6,7,11,12,16,17],[19,7,17,0,3,4,5,6,7,11,12,16,17],[1,0,1,3,4,5,6,7,8,9,10,11,12,16,17,18,19,20],[21,0,1,3,4,5,6,7,8,9,10,11,12,16,17,18,19,20],[22,12,20,0,1,3,4,5,6,7,8,9,10,11,12,16,17,18,19,20],[2,0,1,2,3,4,5,6,7,8,9,10,11,12,13,14,15,16,17,18,19,20,21,22,23],[24,0,1,2,3,4,5,6,7,8,9,10,11,12,13,14,15,16,17,18,19,20,21,22,23],[25,17,23,0,1,2,3,4,5,6,7,8,9,10,11,12,13,14,15,16,17,18,19,20,21,22,23]]
theorem w19:(findR 19 (bodyOf Tryz.f23)).toList.map aftO = a19:=by kernel_rfl
def a23:List (List Nat):=[[],[0],[1],[2],[],[],[5],[6],[7],[],[8,9],[10],[11],[3,4,0,1,2,3,4,5,6,7,8,9,10,11,12],[13,12,12,0,1,2,3,4,5,6,7,8,9,10,11,12]]
theorem w23:(findR 23 (bodyOf Tryz.f23)).toList.map aftO = a23:=by kernel_rfl
theorem k61:Tryz.prog.cellsOf 61 = 1:=by kernel_rfl
theorem k133:Tryz.prog.cellsOf 133 = 1:=by kernel_rfl
theorem u3:Tryz.prog.underlying 3 = some (.int .i64):=by kernel_rfl
theorem u61:Tryz.prog.underlying 61 = some (.slice 3):=by kernel_rfl
theorem u133:Tryz.prog.underlying 133 = some (.slice 61):=by kernel_rfl
theorem u26:∃ e de,Tryz.prog.underlying 26 = some (.slice e) ∧ Tryz.prog.underlying e = some de ∧ Tryz.prog.cellsOf e = 6:=⟨_,_,Tryz.underlying26,Tryz.underlying135,by kernel_rfl⟩
theorem f135:∃ fs,Tryz.prog.underlying 135 = some (.struct fs) ∧ (fs[1]?.map fun d => (d.offset,d.type)) = some (1,61) ∧ (fs[2]?.map fun d => (d.offset,d.type)) = some (2,61) ∧ (fs[3]?.map fun d => (d.offset,d.type)) = some (3,133):=⟨_,Tryz.underlying135,rfl,rfl,rfl⟩
theorem f29:∃ fs,Tryz.prog.underlying 29 = some (.struct fs) ∧ (fs[0]?.map fun d => (d.offset,d.type)) = some (0,26):=⟨_,Tryz.underlying29,rfl⟩
section
variable {a:Act} {w:World} {o:Oper} {x:Operand} {B off:Nat}
theorem r_fieldB {s:TypeId} {f:Nat} {fs:Array Field} {k:Nat} {t:TypeId} (ho:o.op = .fieldAddr s x f) (hs:Tryz.prog.underlying s = some (.struct fs)) (hf:(fs[f]?.map fun d => (d.offset,d.type)) = some (k,t)) (hz:Tryz.prog.cellsOf t ≠ 0) (hu:(Tryz.prog.underlying t).isSome = true)
  (hx:a.eval x = .pointer (some ⟨B,off,none⟩)):(execOp a.eval o).run Tryz.prog w = .ok (.value (.pointer (some ⟨B,off + k,none⟩))) w:=by
 obtain ⟨fd,hfd,he⟩:=Option.map_eq_some_iff.1 hf
 simp only [Prod.mk.injEq] at he
 have:=r_fieldA (a:=a) (w:=w) ho hs hfd (by rw [he.2]; exact hz) (by rw [he.2]; exact hu) hx
 rw [he.1] at this; exact this
theorem r_f1 (ho:o.op = .fieldAddr 135 x 1) (hx:a.eval x = .pointer (some ⟨B,off,none⟩)):(execOp a.eval o).run Tryz.prog w = .ok (.value (.pointer (some ⟨B,off + 1,none⟩))) w:=by
 obtain ⟨fs,h1,h2,-⟩:=f135
 exact r_fieldB ho h1 h2 (by rw [k61]; decide) (by rw [u61]; rfl) hx
theorem r_f2 (ho:o.op = .fieldAddr 135 x 2) (hx:a.eval x = .pointer (some ⟨B,off,none⟩)):(execOp a.eval o).run Tryz.prog w = .ok (.value (.pointer (some ⟨B,off + 2,none⟩))) w:=by
 obtain ⟨fs,h1,-,h2,-⟩:=f135
 exact r_fieldB ho h1 h2 (by rw [k61]; decide) (by rw [u61]; rfl) hx
theorem r_f3 (ho:o.op = .fieldAddr 135 x 3) (hx:a.eval x = .pointer (some ⟨B,off,none⟩)):(execOp a.eval o).run Tryz.prog w = .ok (.value (.pointer (some ⟨B,off + 3,none⟩))) w:=by
 obtain ⟨fs,h1,-,-,h2⟩:=f135
 exact r_fieldB ho h1 h2 (by rw [k133]; decide) (by rw [u133]; rfl) hx
theorem r_f0 (ho:o.op = .fieldAddr 29 x 0) (hx:a.eval x = .pointer (some ⟨B,off,none⟩)):(execOp a.eval o).run Tryz.prog w = .ok (.value (.pointer (some ⟨B,off,none⟩))) w:=by
 obtain ⟨fs,h1,h2⟩:=f29
 exact r_fieldB (k:=0) ho h1 h2 (by rw [show Tryz.prog.cellsOf 26 = 1 by kernel_rfl]; decide) (by kernel_rfl) hx
theorem r_load61 {ad:Addr} {v:Value} (ho:o.op = .load 61 x) (hx:a.eval x = .pointer (some ad)) (hc:w.cell? ad = some v):(execOp a.eval o).run Tryz.prog w = .ok (.value v) w:=r_load ho u61 (by kernel_rfl) hx hc
theorem r_load133 {ad:Addr} {v:Value} (ho:o.op = .load 133 x) (hx:a.eval x = .pointer (some ad)) (hc:w.cell? ad = some v):(execOp a.eval o).run Tryz.prog w = .ok (.value v) w:=r_load ho u133 (by kernel_rfl) hx hc
theorem r_load26 {ad:Addr} {v:Value} (ho:o.op = .load 26 x) (hx:a.eval x = .pointer (some ad)) (hc:w.cell? ad = some v):(execOp a.eval o).run Tryz.prog w = .ok (.value v) w:=by
 obtain ⟨e,de,h1,-⟩:=u26
 exact r_load ho h1 (by kernel_rfl) hx hc
theorem r_at133 {y:Operand} {V m cap k:Nat} (ho:o.op = .indexAddr 133 x y) (hx:a.eval x = .slice (some ⟨V,0,none⟩) m cap) (hy:a.eval y = .int .i64 k) (hk:k < m):(execOp a.eval o).run Tryz.prog w = .ok (.value (.pointer (some ⟨V,k,none⟩))) w:=by
 have:=r_index (a:=a) (w:=w) ho u133 u61 hx hy hk
 rw [k61,Nat.mul_one,Nat.zero_add] at this
 exact this
theorem r_at26 {y:Operand} {V m cap k:Nat} (ho:o.op = .indexAddr 26 x y) (hx:a.eval x = .slice (some ⟨V,0,none⟩) m cap) (hy:a.eval y = .int .i64 k) (hk:k < m):(execOp a.eval o).run Tryz.prog w = .ok (.value (.pointer (some ⟨V,k * 6,none⟩))) w:=by
 obtain ⟨e,de,h1,h2,h3⟩:=u26
 have:=r_index (a:=a) (w:=w) ho h1 h2 hx hy hk
 rw [h3,Nat.zero_add] at this
 exact this
theorem r_len26 {q:Option Addr} {n c t:Nat} (ho:o.op = lenC t 26) (hx:a.eval (.tmp t) = .slice q n c):(execOp a.eval o).run Tryz.prog w = .ok (.value (.int .i64 n)) w:=by
 obtain ⟨e,de,h1,-⟩:=u26
 exact r_len ho h1 hx
end
end Go.Proofs.YtblebiafhhhflaaGreat
