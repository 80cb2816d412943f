/- An abstract evaluator of the loaded code, and that what it says is what the machine does. -/
import Derived.Test.YtoohbnmhjfgclaaGreatDoorEv6
import Derived.Below
import Derived.Lib.Index
import Derived.Lib.SlTrimSet
import Derived.Shelf.Bytes.SlIndexAt
import Derived.OpenShut
import Derived.ChangeArms
import Derived.FnData
import Derived.MakeChecks
import Derived.Lib.MakeNoZero
import Derived.Lib.Bytealg
import Derived.Lib.BytesEntry
import Derived.Laws.Externs
import Derived.Test.YtoohbnmhjfgclaaGreatDoorEv5
set_option linter.all false
section
set_option linter.unusedVariables false
set_option linter.unusedSimpArgs false
namespace Go.Ab
open Go
section
variable {E:Env} {s s':Nat→AV}
theorem mapM_ev {l:List Operand} (h:∀ x ∈ l,ev s' x = ev s x):l.mapM (ev1 s') = l.mapM (ev1 s):=by
  induction l with
  | nil=>rfl
  | cons x l ih =>
    have h1:ev1 s' x = ev1 s x:=by simp only [ev1,h x (List.mem_cons_self ..)]
    simp only [List.mapM_cons,h1,ih fun y hy=>h y (List.mem_cons_of_mem _ hy)]
theorem evParts_ev {l:List (Nat×Operand)} (h:∀ x ∈ l,ev s' x.2 = ev s x.2):evParts s' l = evParts s l:=by
  unfold evParts
  induction l with
  | nil=>rfl
  | cons x l ih =>
    have h1:ev1 s' x.2 = ev1 s x.2:=by simp only [ev1,h x (List.mem_cons_self ..)]
    simp only [List.mapM_cons,h1,ih fun y hy=>h y (List.mem_cons_of_mem _ hy)]
theorem mapM_fn {α β:Type} {l:List α} {f g:α→Option β} (h:∀ x ∈ l,f x = g x):l.mapM f = l.mapM g:=by
  induction l with
  | nil=>rfl
  | cons x l ih=>simp only [List.mapM_cons,h x (List.mem_cons_self ..),ih fun y hy=>h y (List.mem_cons_of_mem _ hy)]
theorem evI_ev {x:Operand} (h:ev s' x = ev s x):evI s' x = evI s x:=by simp only [evI,h]
theorem evB_ev {d:Nat} {x:Option Operand} (h:∀ y,x = some y→ev s' y = ev s y):evB s' d x = evB s d x:=by
  cases x with
  | none=>rfl
  | some y=>simp only [evB,evI_ev (h y rfl)]
theorem cut_ev {hp:Heap} {sz:Nat} {x:C} {lo hi mx:Option Operand} (h1:∀ y,lo = some y→ev s' y = ev s y) (h2:∀ y,hi = some y→ev s' y = ev s y) (h3:∀ y,mx = some y→ev s' y = ev s y) :
    cutSlice s' hp sz x lo hi mx = cutSlice s hp sz x lo hi mx:=by
  unfold cutSlice
  have a1:=fun d=>evB_ev (d:=d) h1
  have a2:=fun d=>evB_ev (d:=d) h2
  cases mx with
  | none=>simp only [a1,a2]
  | some m =>
    have a3:=evI_ev (h3 m rfl)
    cases hi with
    | none=>simp only [a1,a2,a3]; rfl
    | some hh =>
      have a4:=evI_ev (h2 hh rfl)
      simp only [a1,a2,a3]
      split <;> simp [a4]
theorem dop_ev {hp:Heap} {o:Oper} (h:∀ x ∈ o.op.operands,ev s' x = ev s x):dop E s' hp o = dop E s hp o:=by
  cases hop:o.op
  all_goals rw [hop] at h
  all_goals try simp only [Op.operands,List.mem_toArray,List.mem_cons,List.not_mem_nil,or_false,forall_eq,forall_eq_or_imp] at h
  case move x=>simp only [dop,hop,h]
  case assign x=>simp only [dop,hop,h]
  case alloc t=>simp only [dop,hop]
  case box t x=>simp only [dop,hop,ev1,h]
  case load t x=>simp only [dop,hop,evC,h]
  case nilCheck x=>simp only [dop,hop,evC,h]
  case unOp a b x=>simp only [dop,hop,h]
  case pick c a b=>simp only [dop,hop,h]
  case binOp a b x y z=>simp only [dop,hop,ev1,h]
  case store t x y=>simp only [dop,hop,ev1,evC,h]
  case makeInterface t x=>simp only [dop,hop,h]
  case convert a b x=>simp only [dop,hop,ev1,h]
  case fieldAddr t x f=>simp only [dop,hop,evC,h]
  case field t x f=>simp only [dop,hop,ev1,h]
  case indexAddr t x i=>simp only [dop,hop,evC,evI,h]
  case index t x i=>simp only [dop,hop,ev1,evI,h]
  case lookup t x k b=>simp only [dop,hop,evC,h]
  case range t x=>simp only [dop,hop,evC,h]
  case next x b=>cases b <;> simp only [dop,hop,evC,h]
  case extract x i=>simp only [dop,hop,h]
  case makeSlice t x y=>simp only [dop,hop,evI,h]
  case mapUpdate t m k v=>simp only [dop,hop,mapPut,ev1,evC,h]
  case insert t m k v=>simp only [dop,hop,mapPut,ev1,evC,h]
  case build t ps =>
    have h2:evParts s' ps.toList = evParts s ps.toList:=evParts_ev fun x hx=>h x.2 (by simp only [List.mem_map]; exact ⟨x,hx,rfl⟩)
    simp only [dop,hop,h2]
  case buildSlice t n ps =>
    have h2:evParts s' ps.toList = evParts s ps.toList:=evParts_ev fun x hx=>h x.2 (by simp only [List.mem_map]; exact ⟨x,hx,rfl⟩)
    simp only [dop,hop,h2]
  case makeFunc fn first cap =>
    have h2:∀ x ∈ cap.toList,ev s' x = ev s x:=fun x hx=>h x (by simp only [Array.mem_append]; exact .inr (by simpa using hx))
    simp only [dop,hop]
    split
    · simp only [Option.bind_eq_bind]
      congr 1
      refine mapM_fn fun x hx=>?_
      simp only [evC,h2 x hx]
    · rfl
  case makeMap t r=>cases r <;> simp only [dop,hop]
  case slice t x lo hi mx =>
    have hx:ev s' x = ev s x:=h x (by simp)
    have h1:∀ y,lo = some y→ev s' y = ev s y:=fun y hy=>h y (by subst hy; simp)
    have h2:∀ y,hi = some y→ev s' y = ev s y:=fun y hy=>h y (by subst hy; simp)
    have h3:∀ y,mx = some y→ev s' y = ev s y:=fun y hy=>h y (by subst hy; simp)
    have a1:=fun d=>evB_ev (d:=d) h1
    have a2:=fun d=>evB_ev (d:=d) h2
    simp only [dop,hop,ev1,hx,a1,a2,cut_ev h1 h2 h3]
  case call c =>
    have h2:∀ x ∈ c.args.toList,ev s' x = ev s x:=fun x hx=>h x (by simp only [Call.operands,Array.mem_append]; exact .inr (by simpa using hx))
    simp only [dop,hop,builtinA,mapM_ev h2]
  all_goals simp only [dop,hop]
theorem glob_ev {o:Op} {g:Nat} {op':Op} {v:AV} (hg:globOf o = some (g,op')) (h:∀ x ∈ o.operands,ev s' x = ev s x):∀ x ∈ op'.operands,ev (upd s' bigT v) x = ev (upd s bigT v) x:=by
  have big:ev (upd s' bigT v) (.tmp bigT) = ev (upd s bigT v) (.tmp bigT):=by simp only [ev,upd_same]
  have key:∀ t,ev s' (.tmp t) = ev s (.tmp t)→ev (upd s' bigT v) (.tmp t) = ev (upd s bigT v) (.tmp t):=by
    intro t ht
    simp only [ev,Option.some.injEq] at ht ⊢
    unfold upd
    split
    · rfl
    · exact ht
  unfold globOf at hg
  split at hg
  · cases hg
    intro x hx
    simp only [Op.operands,List.mem_toArray,List.mem_cons,List.not_mem_nil,or_false] at hx
    subst hx; exact big
  · rename_i t g' i
    split at hg
    · cases hg
    · cases hg
      intro x hx
      simp only [Op.operands,List.mem_toArray,List.mem_cons,List.not_mem_nil,or_false] at hx
      rcases hx with rfl | rfl
      · exact big
      · exact key i (h (.tmp i) (by simp [Op.operands]))
  · rename_i t g' w
    cases hg
    intro x hx
    simp only [Op.operands,List.mem_toArray,List.mem_cons,List.not_mem_nil,or_false] at hx
    rcases hx with rfl | rfl
    · exact big
    · rfl
  · cases hg
    intro x hx
    simp only [Op.operands,List.mem_toArray,List.mem_cons,List.not_mem_nil,or_false] at hx
    subst hx; exact big
  · cases hg
theorem stepA_ev {c:Caller} {hp:Heap} {o:Oper} (h:∀ x ∈ o.op.operands,ev s' x = ev s x):stepA E c s' hp o = stepA E c s hp o:=by
  unfold stepA
  split
  · rename_i cl hop
    split
    · rename_i f hc
      rw [hop] at h
      have h1:ev s' f = ev s f:=h f (by simp [Op.operands,Call.operands,hc])
      have h2:∀ x ∈ cl.args.toList,ev s' x = ev s x:=fun x hx=>h x (by simp only [Op.operands,Call.operands,Array.mem_append]; exact .inr (by simpa using hx))
      simp only [opCall,hc,mapM_ev h2,h1]
    · exact dop_ev h
  · split
    · rename_i g op' hg
      cases E.glob g with
      | none=>rfl
      | some cs=>exact dop_ev (glob_ev hg h)
    · exact dop_ev h
theorem restr_ev {all:List Oper} {o:Oper} {sl:Nat→AV}:∀ x ∈ o.op.operands,ev (restr (lookL all o) sl) x = ev sl x:=by
  intro x hx
  cases x with
  | tmp t =>
    have:(lookL all o).contains t = true:=by
      simp only [lookL,List.contains_iff_mem,List.mem_append,List.mem_filterMap]
      exact .inl ⟨.tmp t,by simpa using hx,rfl⟩
    simp only [ev,restr,this,if_true]
  | _=>rfl
theorem core_restr {c:Caller} {all:List Oper} {o:Oper} {sl:Nat→AV} {hp:Heap}:coreA E c all (restr (lookL all o) sl) hp o = coreA E c all sl hp o:=by
  have hw:wantA all (restr (lookL all o) sl) o = wantA all sl o:=by
    unfold wantA
    split
    · rfl
    · rename_i j want hg
      split
      · rename_i d hd
        have:(lookL all o).contains d = true:=by
          simp only [lookL,List.contains_iff_mem,List.mem_append,hg,hd]
          exact .inr (by simp)
        simp only [restr,this,if_true]
      · rfl
  unfold coreA
  rw [hw,stepA_ev restr_ev]
theorem runD_ops {c:Caller} {all:List Oper}:∀ (os:List Oper) (st:St),(runD E c all os st).map (·.1) = runOps E c all os st:=by
  intro os
  induction os with
  | nil=>intro st; rfl
  | cons o os ih =>
    intro st
    simp only [runD,stepR,core_restr,runOps]
    unfold coreA
    cases hw:wantA all st.sl o with
    | none=>rfl
    | some b =>
      cases b with
      | false =>
        simp only [Option.map_some,Option.bind_some,Option.map_map]
        rw [← ih]
        rfl
      | true =>
        cases hs:stepA E c st.sl st.hp o with
        | none=>rfl
        | some r =>
          simp only [Option.map_some,Option.bind_some,Option.map_map]
          rw [← ih]
          rfl
theorem den_dr {fn:FuncId} {m:Nat} {call:Caller} {it:It} {id:Nat} {ops:Array Oper} {st:St} (h:(drawOk E ops.toList && (floats E ops.toList).isEmpty) = true) :
    den E fn m call it (.region id ops true) none st = regD (runOps E call ops.toList ops.toList st):=by
  simp only [Bool.and_eq_true,List.isEmpty_iff] at h
  rw [den_draw E fn m call it id ops st h.1,← runD_ops]
  unfold runDraw
  rw [h.2]
  cases runD E call ops.toList ops.toList st <;> rfl
end
theorem evalS_bind (P:Program) {α β:Type} (x:Sem α) (f:α→Sem β):evalS P (x >>= f) = (evalS P x).bind fun a=>evalS P (f a):=by
  induction x with
  | pure a=>rfl
  | program k ih=>exact ih P
  | _=>rfl
theorem evalS_pure (P:Program) {α:Type} (a:α):evalS P (pure a:Sem α) = some a:=rfl
theorem ofV_nil:ofV (.slice none 0 0) = some (.c (.d (.lst true []))):=rfl
end Go.Ab
end
section
set_option linter.unusedVariables false
set_option linter.unusedSimpArgs false
namespace Go.Ab
open Go
abbrev Bs:=List UInt8
def S (l:Bs):ByteArray:=⟨l.toArray⟩
theorem mkS (l:Bs):(ByteArray.mk l.toArray) = S l:=rfl
theorem S_size (l:Bs):(S l).size = l.length:=by simp [S,ByteArray.size]
theorem S_get! (l:Bs) (i:Nat):(S l).get! i = l.getD i 0:=by
  show (l.toArray)[i]! = l.getD i 0
  simp [List.getD_eq_getElem?_getD,getElem!_def]
  cases l[i]? <;> rfl
theorem S_toList (l:Bs):(S l).data.toList = l:=by simp [S]
theorem S_getD (l:Bs) (n:Nat) (d:UInt8):(S l).data.getD n d = l.getD n d:=by simp [S,Array.getD_eq_getD_getElem?,List.getD_eq_getElem?_getD]
theorem S_append (a b:Bs):S a ++ S b = S (a ++ b):=by
  apply ByteArray.ext
  simp [S]
theorem S_extract (l:Bs) (a b:Nat):(S l).extract a b = S ((l.take b).drop a):=by
  apply ByteArray.ext
  simp [S,ByteArray.data_extract,List.extract_eq_take_drop,List.drop_take]
theorem S_toL (l:Bs):(S l).toList = l:=by
  have key:∀ (n i:Nat) (r:Bs),l.length - i = n→ByteArray.toList.loop (S l) i r = r.reverse ++ l.drop i:=by
    intro n
    induction n with
    | zero =>
      intro i r h
      unfold ByteArray.toList.loop
      rw [if_neg (by rw [S_size]; omega),List.drop_eq_nil_of_le (by omega),List.append_nil]
    | succ n ih =>
      intro i r h
      unfold ByteArray.toList.loop
      have hi:i < l.length:=by omega
      rw [if_pos (by rw [S_size]; omega),ih (i + 1) _ (by omega),S_get!,List.drop_eq_getElem_cons hi]
      simp [List.getD_eq_getElem?_getD,hi]
  have:=key l.length 0 [] (by omega)
  simpa [ByteArray.toList] using this
section
variable {σ β:Type}
def iterN (n:Nat) (f:σ→Option (σ ⊕ β)) (s:σ):Option β:=match n with
  | 0=>none
  | n + 1=>match f s with
    | some (.inl t)=>iterN n f t
    | some (.inr r)=>some r
    | none=>none
theorem iterN_le {f:σ→Option (σ ⊕ β)}:∀ {k k':Nat} {s:σ} {r:β},k≤k'→iterN k f s = some r→iterN k' f s = some r:=by
  intro k
  induction k with
  | zero=>intro k' s r _ h; simp [iterN] at h
  | succ k ih =>
    intro k' s r hk h
    obtain ⟨k',rfl⟩:∃ m,k' = m + 1:=⟨k' - 1,by omega⟩
    simp only [iterN] at h ⊢
    cases hf:f s with
    | none=>rw [hf] at h; simp at h
    | some x =>
      rw [hf] at h
      cases x with
      | inl t=>exact ih (by omega) h
      | inr b=>exact h
noncomputable def iter (f:σ→Option (σ ⊕ β)) (s:σ):Option β:=limit (fun k x=>iterN k f x) s
theorem iter_some {f:σ→Option (σ ⊕ β)} {s:σ} {r:β}:iter f s = some r ↔ ∃ k,iterN k f s = some r :=
  limit_some (F:=fun k x=>iterN k f x) fun k k' x r hk h=>iterN_le hk h
theorem iter_eq (f:σ→Option (σ ⊕ β)) (s:σ):iter f s = match f s with | some (.inl t)=>iter f t | some (.inr r)=>some r | none=>none:=by
  apply option_ext
  intro r
  rw [iter_some]
  constructor
  · rintro ⟨k,hk⟩
    cases k with
    | zero=>simp [iterN] at hk
    | succ k =>
      simp only [iterN] at hk
      cases hx:f s with
      | none=>rw [hx] at hk; simp at hk
      | some z =>
        rw [hx] at hk
        cases z with
        | inl z=>exact iter_some.2 ⟨k,hk⟩
        | inr z=>exact hk
  · intro h
    cases hx:f s with
    | none=>rw [hx] at h; simp at h
    | some z =>
      rw [hx] at h
      cases z with
      | inl z=>obtain ⟨k,hk⟩:=iter_some.1 h; exact ⟨k + 1,by simp only [iterN,hx]; exact hk⟩
      | inr z=>exact ⟨1,by simp only [iterN,hx]; exact h⟩
theorem iter_l {f:σ→Option (σ ⊕ β)} {s t:σ} (h:f s = some (.inl t)):iter f s = iter f t:=by rw [iter_eq,h]
theorem iter_r {f:σ→Option (σ ⊕ β)} {s:σ} {r:β} (h:f s = some (.inr r)):iter f s = some r:=by rw [iter_eq,h]
theorem iter_n {f:σ→Option (σ ⊕ β)} {s:σ} (h:f s = none):iter f s = none:=by rw [iter_eq,h]
end
def stepE {γ:Type} (K:Option (Ex×St)→Option γ) (a:Option (X ⊕ (Ex×St))):Option (X ⊕ γ):=match a with
  | some (.inl x)=>some (.inl x)
  | some (.inr r)=>(K (some r)).map .inr
  | none=>none
theorem stepE_l {γ:Type} (K:Option (Ex×St)→Option γ) (x:X):stepE K (some (.inl x)) = some (.inl x):=rfl
theorem stepE_r {γ:Type} (K:Option (Ex×St)→Option γ) (r:Ex×St):stepE K (some (.inr r)) = (K (some r)).map .inr:=rfl
theorem stepE_n {γ:Type} (K:Option (Ex×St)→Option γ):stepE K none = none:=rfl
def sm {σ τ β γ:Type} (e:σ→τ) (d:β→γ):σ ⊕ β→τ ⊕ γ:=fun x=>match x with | .inl a=>.inl (e a) | .inr b=>.inr (d b)
theorem mi {σ τ β γ:Type} {a:Option γ} {b:Option β} {d:β→γ} {e:σ→τ} (h:a = b.map d):a.map Sum.inr = (b.map Sum.inr).map (sm e d):=by
  subst h
  cases b <;> rfl
theorem it_sim {σ β γ:Type} {K:Option (Ex×St)→Option γ} (hK:K none = none) {d:β→γ} {G:X→Option (X ⊕ (Ex×St))} {enc:σ→X} {step:σ→Option (σ ⊕ β)}
    (h:∀ s,stepE K (G (enc s)) = (step s).map (sm enc d)) (s:σ):K (itW G (enc s)) = (iter step s).map d:=by
  have one:∀ n s r,itN n G (enc s) = some r→K (some r) = (iter step s).map d:=by
    intro n
    induction n with
    | zero=>intro s r hr; simp [itN] at hr
    | succ n ih =>
      intro s r hr
      have h1:=h s
      simp only [itN] at hr
      cases hx:G (enc s) with
      | none=>rw [hx] at hr; simp at hr
      | some z =>
        rw [hx] at hr h1
        cases z with
        | inl z =>
          cases hs:step s with
          | none=>rw [hs] at h1; simp [stepE] at h1
          | some q =>
            rw [hs] at h1
            cases q with
            | inl t =>
              simp only [stepE,Option.map_some,sm,Option.some.injEq,Sum.inl.injEq] at h1
              subst h1
              rw [iter_l hs]
              exact ih t r hr
            | inr b=>simp [stepE,sm] at h1
        | inr z =>
          simp only [Option.some.injEq] at hr
          subst hr
          cases hk:K (some z) with
          | none =>
            rw [stepE_r,hk] at h1
            cases hs:step s with
            | none=>rw [iter_n hs]; rfl
            | some q=>rw [hs] at h1; simp at h1
          | some c =>
            rw [stepE_r,hk] at h1
            cases hs:step s with
            | none=>rw [hs] at h1; simp at h1
            | some q =>
              rw [hs] at h1
              cases q with
              | inl t=>simp [sm] at h1
              | inr b =>
                simp only [Option.map_some,sm,Option.some.injEq,Sum.inr.injEq] at h1
                subst h1
                rw [iter_r hs]; rfl
  cases hw:itW G (enc s) with
  | some r =>
    obtain ⟨n,hn⟩:=itW_some.1 hw
    exact one n s r hn
  | none =>
    rw [hK]
    cases hi:iter step s with
    | none=>rfl
    | some b =>
      exfalso
      obtain ⟨n,hn⟩:=iter_some.1 hi
      clear hi one
      induction n generalizing s with
      | zero=>simp [iterN] at hn
      | succ n ih =>
        have h1:=h s
        simp only [iterN] at hn
        rw [itW_eq] at hw
        cases hs:step s with
        | none=>rw [hs] at hn; simp at hn
        | some q =>
          rw [hs] at hn h1
          cases hx:G (enc s) with
          | none=>rw [hx] at h1; simp [stepE] at h1
          | some z =>
            rw [hx] at h1 hw
            cases z with
            | inr z=>simp at hw
            | inl z =>
              cases q with
              | inr b=>simp [stepE,sm] at h1
              | inl t =>
                simp only [stepE,Option.map_some,sm,Option.some.injEq,Sum.inl.injEq] at h1
                subst h1
                exact ih t hw hn
end Go.Ab
end
section
set_option linter.unusedVariables false
set_option linter.unusedSimpArgs false
namespace Go.Ab
open Go
def bodyOf (f:Func):Code:=match f.body with | some c=>c | none=>.skip
def cA:Code→Code
  | .seq a _=>a
  | .cond _ a _=>a
  | .block _ a=>a
  | .loop a=>a
  | .scope a=>a
  | c=>c
def cB:Code→Code
  | .seq _ b=>b
  | .cond _ _ b=>b
  | c=>c
def opsOf:Code→List Oper
  | .region _ ops _=>ops.toList
  | _=>[]
def isRg:Code→Bool
  | .region _ _ d => !d
  | _=>false
def isDr:Code→Bool
  | .region _ _ d=>d
  | _=>false
section
variable {E:Env} {fn:FuncId} {m:Nat} {call:Caller} {it:It} {c:Code} {st:St}
theorem den_rg (h:isRg c = true):den E fn m call it c none st = regD (runOps E call (opsOf c) (opsOf c) st):=by
  cases c <;> simp [isRg] at h
  subst h
  rfl
theorem den_dr2 (h:(isDr c && (drawOk E (opsOf c) && (floats E (opsOf c)).isEmpty)) = true):den E fn m call it c none st = regD (runOps E call (opsOf c) (opsOf c) st):=by
  cases c <;> simp only [isDr,Bool.false_and,Bool.false_eq_true] at h
  simp only [Bool.and_eq_true] at h
  obtain ⟨h1,h2⟩:=h
  subst h1
  exact den_dr (by simp only [Bool.and_eq_true]; exact h2)
end
section
variable {α β:Type} {L:Option β} {e:α→β} {x y:Option α}
theorem brB {b:Bool} (h1:b = true→L = x.map e) (h0:b = false→L = y.map e):L = Option.map e (if b = true then x else y):=by
  cases b
  · simpa using h0 rfl
  · simpa using h1 rfl
theorem brP {p:Prop} [Decidable p] (h1:p→L = x.map e) (h0:¬ p→L = none):L = Option.map e (if p then x else none):=by
  by_cases h:p
  · simpa [h] using h1 h
  · simpa [h] using h0 h
theorem brM {γ:Type} {q:Option γ} {f:γ→Option α} (h0:q = none→L = none) (h1:∀ r,q = some r→L = (f r).map e):L = Option.map e (q.bind f):=by
  cases q with
  | none=>simpa using h0 rfl
  | some r=>simpa using h1 r rfl
end
def enL {α:Type} (f:α→List D) (l:List α):List (List D):=l.map f
def enB:UInt8→List D:=fun x=>[.sc (.int .u8 (x.toNat:Int))]
theorem enB_e (x:UInt8):enB x = [.sc (.int .u8 (x.toNat:Int))]:=rfl
theorem enL_length {α:Type} (f:α→List D) (l:List α):(enL f l).length = l.length:=by simp [enL]
theorem enL_get {α:Type} [Inhabited α] (f:α→List D) (l:List α) (k:Nat) (h:k < l.length):(enL f l).getD k [] = f (l.getD k default):=by
  simp [enL,List.getD,h]
theorem enL_take {α:Type} (f:α→List D) (l:List α) (k:Nat):(enL f l).take k = enL f (l.take k):=by simp [enL,List.map_take]
theorem enL_drop {α:Type} (f:α→List D) (l:List α) (k:Nat):(enL f l).drop k = enL f (l.drop k):=by simp [enL,List.map_drop]
theorem enL_all {α:Type} (f:α→List D) (sz:Nat) (h:∀ x,(f x).length = sz) (l:List α):((enL f l).all fun e=>e.length == sz) = true:=by
  simp [enL,h]
theorem enB_a (l:List UInt8):((enL enB l).all fun e=>e.length == 1) = true:=enL_all enB 1 (fun _=>rfl) l
theorem encB_S (l:Bs):encB (S l).data.toList = enL enB l:=by rw [S_toList]; rfl
theorem bytesOf_en (l:Bs):bytesOf (enL enB l) = some l:=by
  unfold bytesOf enL
  induction l with
  | nil=>rfl
  | cons x l ih =>
    rw [List.map_cons,List.mapM_cons,ih]
    simp [enB,byteOf]
def rz (nl:Bool) (sz:Nat):Nat:=bif nl then 0 else sz
theorem rz_t (sz:Nat):rz true sz = 0:=rfl
theorem rz_f (sz:Nat):rz false sz = sz:=rfl
theorem getElem?_set_self' {α:Type} {l:List α} {k:Nat} {x y:α} (h:l[k]? = some x):(l.set k y)[k]? = some y:=by
  have:k < l.length:=by rw [List.getElem?_eq_some_iff] at h; exact h.1
  simp [this]
theorem appendA_own {P:Program} {t e:TypeId} {α:Type} (f:α→List D) (sz by_:Nat) (hf:∀ x,(f x).length = sz) (ht:P.underlying t = some (.slice e)) (hs:szP P e = some sz)
    (hb:bytesP P e = some by_) {z:List C} (hz:zeroC P e = some z) (hzl:z.length = sz) (h0:0 < sz) (h1:0 < by_) {hp:Heap} {k:Nat} {nl:Bool} {a b:List α}
    (hk:hp[k]? = some (.row a.length (rz nl sz))):appendA P false hp t (.own nl (enL f a) k) (enL f b) =
      if b = []∨(a.length + b.length) * by_≤140737488355328 then some (.c (.own (nl && b.isEmpty) (enL f (a ++ b)) k),hp.set k (.row (a ++ b).length (rz (nl && b.isEmpty) sz))) else none:=by
  have ha:((enL f a).all fun e=>e.length == sz) = true:=enL_all f sz hf a
  have hbb:((enL f b).all fun e=>e.length == sz) = true:=enL_all f sz hf b
  have hrz:rz nl sz = sz∨rz nl sz = 0:=by cases nl <;> simp [rz]
  have hset:∀ x,hp[k]? = some x→hp.set k x = hp:=by
    intro x hx
    apply List.ext_getElem?
    intro i
    by_cases hi:i = k
    · subst hi; rw [getElem?_set_self' hx,hx]
    · rw [List.getElem?_set]; simp [Ne.symm hi]
  cases b with
  | nil =>
    simp only [appendA,ht,hs,hb,hz,hzl,h0,h1,true_and,enL,List.map_nil,List.all_nil,if_true,List.append_nil,List.isEmpty_nil,Bool.and_true,true_or]
    rw [hset _ hk]
  | cons x b =>
    have h2:enL f (x :: b) ≠ []:=by simp [enL]
    simp only [appendA,ht,hs,hb,hz,hzl,h0,h1,true_and,hbb,if_true,if_neg h2,hk,enL_length,hrz,ha,List.isEmpty_cons,Bool.and_false,reduceCtorEq,false_or,List.length_append,Bool.false_eq_true,false_and,if_false]
    have h3:(2:Nat) ^ 47 = 140737488355328:=by decide
    rw [h3]
    by_cases hc:(a.length + (x :: b).length) * by_≤140737488355328
    · rw [if_pos hc,if_pos hc]
      simp [enL,rz]
    · rw [if_neg hc,if_neg hc]
def w64 (x:Int):Int:=IntKind.wrap .i64 x
def wu64 (x:Int):Int:=IntKind.wrap .u64 x
def w32 (x:Int):Int:=IntKind.wrap .i32 x
def wu32 (x:Int):Int:=IntKind.wrap .u32 x
def u8 (x:Int):UInt8:=UInt8.ofNat (x % 256).toNat
theorem wr_w64 (x:Int):IntKind.wrap .i64 x = w64 x:=rfl
theorem wr_wu64 (x:Int):IntKind.wrap .u64 x = wu64 x:=rfl
theorem wr_w32 (x:Int):IntKind.wrap .i32 x = w32 x:=rfl
theorem wr_wu32 (x:Int):IntKind.wrap .u32 x = wu32 x:=rfl
theorem wr_u8 (x:Int):IntKind.wrap .u8 x = ((u8 x).toNat:Int):=by
  unfold IntKind.wrap u8
  simp only [IntKind.bits,IntKind.signed,Bool.false_and,Bool.false_eq_true,if_false]
  rw [UInt8.toNat_ofNat']
  omega
theorem w64_eq (n:Int) (h1 : -9223372036854775808≤n) (h2:n < 9223372036854775808):w64 n = n:=wrap_64 n h1 h2
theorem wu64_eq (n:Int) (h1:0≤n) (h2:n < 18446744073709551616):wu64 n = n:=by
  unfold wu64 IntKind.wrap
  simp only [IntKind.bits,IntKind.signed,Bool.false_and,Bool.false_eq_true,if_false]
  exact Int.emod_eq_of_lt h1 h2
theorem w32_eq (n:Int) (h1 : -2147483648≤n) (h2:n < 2147483648):w32 n = n:=by
  show (if (true && decide (n % 4294967296 ≥ 2147483648)) = true then n % 4294967296 - 4294967296 else n % 4294967296) = n
  by_cases h:n % 4294967296 ≥ 2147483648
  · simp only [h,decide_true,Bool.and_self,if_true]; omega
  · simp only [h,decide_false,Bool.and_false,Bool.false_eq_true,if_false]; omega
theorem wu32_eq (n:Int) (h1:0≤n) (h2:n < 4294967296):wu32 n = n:=by
  unfold wu32 IntKind.wrap
  simp only [IntKind.bits,IntKind.signed,Bool.false_and,Bool.false_eq_true,if_false]
  exact Int.emod_eq_of_lt h1 h2
theorem w64_lit (n:Nat) (h:n < 9223372036854775808):w64 (no_index (OfNat.ofNat n)) = OfNat.ofNat n:=by
  exact w64_eq (n:Int) (by omega) (by omega)
theorem w64_nlit (n:Nat) (h:n < 9223372036854775809):w64 (-(no_index (OfNat.ofNat n))) = -(OfNat.ofNat n):=by
  exact w64_eq (-(n:Int)) (by omega) (by omega)
theorem wu64_lit (n:Nat) (h:n < 18446744073709551616):wu64 (no_index (OfNat.ofNat n)) = OfNat.ofNat n:=by
  exact wu64_eq (n:Int) (by omega) (by omega)
theorem w64_u8 (c:UInt8):w64 (c.toNat:Int) = c.toNat:=by
  have:=c.toNat_lt
  exact w64_eq _ (by omega) (by omega)
theorem wu64_u8 (c:UInt8):wu64 (c.toNat:Int) = c.toNat:=by
  have:=c.toNat_lt
  exact wu64_eq _ (by omega) (by omega)
theorem w32_u8 (c:UInt8):w32 (c.toNat:Int) = c.toNat:=by
  have:=c.toNat_lt
  exact w32_eq _ (by omega) (by omega)
theorem wu32_u8 (c:UInt8):wu32 (c.toNat:Int) = c.toNat:=by
  have:=c.toNat_lt
  exact wu32_eq _ (by omega) (by omega)
theorem u8_inj {a b:UInt8} (h:(a.toNat:Int) = b.toNat):a = b:=UInt8.toNat_inj.1 (by omega)
theorem u8_toNat (x:Int):((u8 x).toNat:Int) = x % 256:=by
  unfold u8
  rw [UInt8.toNat_ofNat']
  omega
theorem u8_u8 (c:UInt8):u8 (c.toNat:Int) = c:=by
  have:=c.toNat_lt
  exact u8_inj (by rw [u8_toNat]; omega)
theorem u8_add (a b:UInt8):u8 ((a.toNat:Int) + b.toNat) = a + b:=by
  apply u8_inj
  rw [u8_toNat,UInt8.toNat_add]
  omega
theorem u8_sub (a b:UInt8):u8 ((a.toNat:Int) - b.toNat) = a - b:=by
  have h1:=a.toNat_lt
  have h2:=b.toNat_lt
  apply u8_inj
  rw [u8_toNat,UInt8.toNat_sub]
  omega
theorem u8_mul (a b:UInt8):u8 ((a.toNat:Int) * b.toNat) = a * b:=by
  apply u8_inj
  rw [u8_toNat,UInt8.toNat_mul]
  simp only [Int.natCast_emod,Int.natCast_mul]
  rfl
theorem u8_lt (a b:UInt8):decide ((a.toNat:Int) < (b.toNat:Int)) = decide (a < b):=by
  simp [UInt8.lt_iff_toNat_lt]
theorem u8_le (a b:UInt8):decide ((a.toNat:Int)≤(b.toNat:Int)) = decide (a≤b):=by
  simp [UInt8.le_iff_toNat_le]
theorem u8_eq (a b:UInt8):((a.toNat:Int) == (b.toNat:Int)) = (a == b):=by
  rw [Bool.eq_iff_iff]
  simp only [beq_iff_eq]
  constructor
  · intro h; exact UInt8.toNat_inj.1 (by omega)
  · intro h; rw [h]
theorem ofV_u8 (n:Nat) (h:n < 256):ofV (.int .u8 (no_index (OfNat.ofNat n))) = some (.c (.d (.sc (.int .u8 (((OfNat.ofNat n:UInt8)).toNat:Int))))):=by
  have:((OfNat.ofNat n:UInt8)).toNat = n:=by
    show (UInt8.ofNat n).toNat = n
    simp [UInt8.toNat_ofNat']; omega
  rw [this]
  rfl
theorem ev_cat (P:Program) (t:TypeId) (x y:Operand) (a b:Bs):evalS P (do eqGuard .add t x y (.string (S a)) (.string (S b)); binOp .add t (.string (S a)) (.string (S b))) =
    if a.length + b.length < 9223372036854775808 then some (.string (S (a ++ b))) else none:=by
  have h2:IntKind.i64.max = 9223372036854775807:=by decide
  simp only [eqGuard,binOp,Op.stringOp]
  by_cases h:a.length + b.length < 9223372036854775808
  · have:¬ (((S a).size + (S b).size:Nat):Int) > IntKind.i64.max:=by rw [h2,S_size,S_size]; omega
    rw [if_pos h,if_neg this,S_append]
    rfl
  · have:(((S a).size + (S b).size:Nat):Int) > IntKind.i64.max:=by rw [h2,S_size,S_size]; omega
    rw [if_neg h,if_pos this]
    rfl
theorem ev_eqS (P:Program) (t:TypeId) (x y:Operand) (a b:Bs):evalS P (do eqGuard .eql t x y (.string (S a)) (.string (S b)); binOp .eql t (.string (S a)) (.string (S b))) = some (.bool (a == b)):=by
  rw [ev_eql_s,S_toL,S_toL]
theorem ev_neS (P:Program) (t:TypeId) (x y:Operand) (a b:Bs):evalS P (do eqGuard .neq t x y (.string (S a)) (.string (S b)); binOp .neq t (.string (S a)) (.string (S b))) = some (.bool (!(a == b))):=by
  rw [ev_neq_s,S_toL,S_toL]
theorem ev_rem (P:Program) (t:TypeId) (x y:Operand) (k:IntKind) (a b:Int) (h:b ≠ 0):evalS P (do eqGuard .rem t x y (.int k a) (.int k b); binOp .rem t (.int k a) (.int k b)) = some (.int k (a.tmod b)):=by
  cases k <;> simp [eqGuard,binOp,Op.intDiv,h] <;> rfl
def convF (P:Program) (s d:TypeId) (x:Value):Option Value:=evalS P (convert s d x)
theorem evalS_und (P:Program) (t:TypeId):evalS P (underlying t) = P.underlying t:=by
  unfold underlying
  rw [evalS_bind]
  show (Option.some P).bind _ = _
  simp only [Option.bind_some]
  cases P.underlying t <;> rfl
theorem ev_conv (P:Program) (s d:TypeId) (k':IntKind) (n:Int):evalS P (convert s d (.int k' n)) = (match P.underlying s,P.underlying d with
    | some _,some (.int k)=>some (.int k (k.wrap n))
    | _,_=>convF P s d (.int k' n)):=by
  cases h1:P.underlying s with
  | none=>rfl
  | some ds=>cases h2:P.underlying d with
    | none=>rfl
    | some dd =>
      cases dd with
      | int k =>
        simp only [convert,evalS_bind,evalS_und,h1,h2,Option.bind_some]
        rfl
      | _=>rfl
theorem bnd_zero (n:Nat):bnd 0 n = some 0:=by simp [bnd]
theorem bnd_self (n:Nat):bnd (n:Int) n = some n:=by simp [bnd]
theorem bnd_ok {i n:Nat} (h:i≤n):bnd (i:Int) n = some i:=by simp [bnd,h]
theorem slotsOf_z (a:V1) (l:List V1):slotsOf (a :: l) 0 = .v a:=rfl
theorem slotsOf_s (a:V1) (l:List V1) (n:Nat):slotsOf (a :: l) (n + 1) = slotsOf l n:=rfl
theorem slots_z (i:Nat) (c:Co) (r:List (Nat×Co)) (v:AV) (vs:List AV):slots ((i,c) :: r) (v :: vs) i = v:=by simp [slots,upd]
theorem slots_n (i j:Nat) (c:Co) (r:List (Nat×Co)) (v:AV) (vs:List AV) (h:Nat.beq j i = false):slots ((i,c) :: r) (v :: vs) j = slots r vs j:=by
  simp only [slots]
  exact upd_ne _ _ _ _ h
theorem mkV_t (cs:List C):mkV true cs = some (.agg cs):=rfl
theorem mkV_1 (x:C):mkV false [x] = some (.c x):=rfl
section
variable (E:Env) (fn:FuncId) (m:Nat) (call:Caller) (it:It)
theorem stepK_x (all os:List Oper) (d:Option Nat) (sl:Nat→AV):stepK E call all os d sl none = none:=rfl
theorem runK_x (all os:List Oper) (o:Oper) (st:St):runK E call all os o st none = none:=rfl
theorem regD_x:regD none = none:=rfl
theorem seqD_x (b:Code):seqD E fn m call it b none = none:=rfl
theorem blockD_x (id:Nat):blockD id none = none:=rfl
theorem condD_x (t e:Code) (st:St):condD E fn m call it t e st none = none:=rfl
theorem loopK_x (L:List (Nat×Co)):loopK m L none = none:=rfl
theorem bodyD_x (res:List ResultVar) (hand:Bool):bodyD E res m hand none = none:=rfl
end
theorem beqT (b:Bool):(b == true) = b:=by cases b <;> rfl
theorem beqF (b:Bool):(b == false) = !b:=by cases b <;> rfl
theorem ofV_i64 (n:Int):ofV (.int .i64 n) = some (.c (.d (.sc (.int .i64 n)))):=rfl
theorem ofV_u64 (n:Int):ofV (.int .u64 n) = some (.c (.d (.sc (.int .u64 n)))):=rfl
theorem ofV_i32 (n:Int):ofV (.int .i32 n) = some (.c (.d (.sc (.int .i32 n)))):=rfl
theorem ofV_u32 (n:Int):ofV (.int .u32 n) = some (.c (.d (.sc (.int .u32 n)))):=rfl
theorem ofV_u8n (n:Nat):ofV (.int .u8 (n:Int)) = some (.c (.d (.sc (.int .u8 (n:Int))))):=rfl
theorem ev_program (P:Program):evalS P program = some P:=rfl
theorem S_beq (a b:Bs):(S a == S b) = (a == b):=by
  show ((S a).data == (S b).data) = (a == b)
  rw [Bool.eq_iff_iff,beq_iff_eq,beq_iff_eq]
  simp [S]
theorem toV_agg (cs:List C):Ab.toV (.agg cs) = (cs.mapM toV1).map fun l=>.agg l.toArray:=rfl
theorem toV1_sc (v:Value):toV1 (.d (.sc v)) = some v:=rfl
theorem sm_l {σ τ β γ:Type} (e:σ→τ) (d:β→γ) (a:σ):sm e d (.inl a) = .inl (e a):=rfl
theorem sm_r {σ τ β γ:Type} (e:σ→τ) (d:β→γ) (a:β):sm e d (.inr a) = .inr (d a):=rfl
end Go.Ab
end
section
set_option linter.unusedVariables false
set_option linter.unusedSimpArgs false
namespace Go.Ab
open Go Go.RowKit
theorem below_heap {w w':World} (hb:Below w.heap.size w w') {b:Nat} {o:Obj} (h:w.heap[b]? = some o):w'.heap[b]? = some o:=by
  have:b < w.heap.size:=by
    rw [Array.getElem?_eq_some_iff] at h
    exact h.1
  rw [hb.block b this]
  exact h
theorem below_cell {w w':World} (hb:Below w.heap.size w w') {b i:Nat} {v:Value} (h:w.cell? ⟨b,i,none⟩ = some v):w'.cell? ⟨b,i,none⟩ = some v:=by
  unfold World.cell? at h ⊢
  cases ho:w.heap[b]? with
  | none=>simp only [ho] at h; cases h
  | some o =>
    have:=below_heap hb ho
    simp only [ho] at h
    simp only [this]
    exact h
theorem below_OR {G:Gh} {hp:Heap} {w w':World} (hb:Below w.heap.size w w') {k:Nat} {o:Ob} (h:OR G hp w k o):OR G hp w' k o:=by
  cases o with
  | cells cs =>
    obtain ⟨b,vs,t,fz,h1,h2,r⟩:=h
    exact ⟨b,vs,t,fz,h1,below_heap hb h2,r⟩
  | row n rsz =>
    simp only [OR] at h ⊢
    cases hβ:G.β k with
    | none=>trivial
    | tail b o sz cap =>
      rw [hβ] at h
      obtain ⟨e,⟨vs,t,fz,h2,r⟩,r2⟩:=h
      exact ⟨e,⟨vs,t,fz,below_heap hb h2,r⟩,r2⟩
    | blk b=>rw [hβ] at h; exact h
  | amap kvs =>
    obtain ⟨b,es,clock,h1,h2,r⟩:=h
    exact ⟨b,es,clock,h1,below_heap hb h2,r⟩
  | siter s p =>
    obtain ⟨b,h1,h2,r⟩:=h
    exact ⟨b,h1,below_heap hb h2,r⟩
  | gone=>exact h
theorem below_WR {G:Gh} {hp:Heap} {w w':World} (hb:Below w.heap.size w w') (h:WR G hp w):WR G hp w' :=
  ⟨fun b i v hv=>below_cell hb (h.mu b i v hv),fun k o ho=>below_OR hb (h.ob k o ho),h.inj,Nat.le_trans h.lo hb.size⟩
theorem below_Sn {G:Gh} {hp:Heap} {w w':World} (hb:Below w.heap.size w w'):Sn G hp w G hp w' :=
  ⟨fun _ _ _ h=>h,fun _ _ h=>.inl h,fun k _ hk h=>.inr ⟨k,hk,h⟩,fun b hlt _ _=>hb.block b hlt,hb.size,fun k o h=>⟨o,h,KR.refl G k o⟩,⟨hb.os,hb.output,hb.tape⟩,rfl⟩
def scs:List V1→Option (List Value)
  | []=>some []
  | .c (.d (.sc v)) :: r=>(scs r).map (v :: ·)
  | _=>none
theorem scs_rel {G:Gh} {hp:Heap}:∀ {args:List V1} {vs:List Value} {us:List Value},scs args = some us→All2 (VR G hp) args vs→vs = us:=by
  intro args
  induction args with
  | nil=>intro vs us h r; cases r; simp [scs] at h; exact h.symm ▸ rfl
  | cons a args ih =>
    intro vs us h r
    cases r with
    | cons ha ht =>
      rename_i b m
      cases a with
      | agg cs=>simp [scs] at h
      | c x =>
        cases x with
        | d y =>
          cases y with
          | sc v =>
            simp only [scs,Option.map_eq_some_iff] at h
            obtain ⟨us',h1,rfl⟩:=h
            rw [ih h1 ht]
            have:b = v:=by
              have ha':DR G.μ (.sc v) b:=ha
              cases ha'
              rfl
            rw [this]
          | lst nl es=>simp [scs] at h
        | _=>simp [scs] at h
theorem prim_ok {E:Env} {f:FuncId} {p:List V1→Heap→Option (AV×Heap)}
    (h:∀ args hp v h',p args hp = some (v,h')→h' = hp∧∃ us x,scs args = some us∧(∀ G,AR G hp v x) ∧
      ∀ w,(∀ b i y,E.base b i = some y→w.cell? ⟨b,i,none⟩ = some y)→Calls E.P f us.toArray w fun e w'=>e = .returned x∧Below w.heap.size w w'):CallP E f p:=by
  intro args hp v h' hp' G w vs hb hw ha
  obtain ⟨rfl,us,x,h1,hx,hc⟩:=h _ _ _ _ hp'
  rw [scs_rel h1 ha]
  refine (hc w fun b i y hy=>hw.mu b i y (hb.1 b i y hy)).mono ?_
  rintro e w' ⟨rfl,hbl⟩
  exact ⟨x,G,rfl,hx G,below_WR hbl hw,below_Sn hbl⟩
end Go.Ab
end
section
set_option linter.unusedVariables false
set_option linter.unusedSimpArgs false
namespace Go.Ab
open Go
def pIndex:List V1→Heap→Option (AV×Heap):=fun args hp=>match args with
  | [.c (.d (.sc (.string s))),.c (.d (.sc (.string t)))]=>if s.size < 4294967281 then some (.int .i64 (Lib.index s.data.toList t.data.toList),hp) else none
  | _=>none
def asciiB (s:ByteArray):Bool:=s.data.toList.all fun b=>decide (b.toNat < 128)
theorem asciiB_ok {s:ByteArray} (h:asciiB s = true):∀ (j:Nat) b,s.data.toList[j]? = some b→b.toNat < 128:=fun j b hj=>by
  have:=List.all_eq_true.1 h b (List.mem_of_getElem? hj)
  simpa using this
def pTrim:List V1→Heap→Option (AV×Heap):=fun args hp=>match args with
  | [.c (.d (.sc (.string s))),.c (.d (.sc (.string t)))]=>if s.size≤9223372036854775807∧t.size < 4294967281∧asciiB t = true then some (.str ⟨(Lib.trimS s.data.toList t.data.toList).toArray⟩,hp) else none
  | _=>none
end Go.Ab
end
section
set_option linter.unusedVariables false
set_option linter.unusedSimpArgs false
namespace Go.Ab
open Go Go.RowKit
def u8s:List C→Option (List Int)
  | []=>some []
  | .d (.sc (.int .u8 n)) :: r=>(u8s r).map (n :: ·)
  | _=>none
theorem u8s_get:∀ {cs:List C} {xs:List Int},u8s cs = some xs→xs.length = cs.length∧∀ (i:Nat),i < xs.length→cs[i]? = some (.d (.sc (.int .u8 (xs.getD i 0)))):=by
  intro cs
  induction cs with
  | nil=>intro xs h; cases h; exact ⟨rfl,fun i hi=>absurd hi (Nat.not_lt_zero _)⟩
  | cons c cs ih =>
    intro xs h
    unfold u8s at h
    split at h
    · rename_i e; cases e
    · rename_i n r e
      cases e
      obtain ⟨ys,hy,rfl⟩:=Option.map_eq_some_iff.1 h
      obtain ⟨h1,h2⟩:=ih hy
      refine ⟨by simp [h1],fun i hi=>?_⟩
      cases i with
      | zero=>rfl
      | succ i=>simpa using h2 i (by simpa using hi)
    · cases h
def bytesAtO (hp:Heap) (k off len:Nat):Option (List Int) :=
  match hp[k]? with
  | some (.cells cs)=>(u8s ((cs.drop off).take len)).bind fun xs=>if xs.length = len then some xs else none
  | _=>none
theorem bytesAtO_ok {G:Gh} {hp:Heap} {w:World} {k off len:Nat} {xs:List Int} (hw:WR G hp w) (h:bytesAtO hp k off len = some xs) {b:Nat} (hb:Isb G hp k b) :
    xs.length = len∧∀ i,i < len→w.cell? ⟨b,off + i,none⟩ = some (.int .u8 (xs.getD i 0)):=by
  unfold bytesAtO at h
  split at h
  case h_2=>cases h
  case h_1 cs ho =>
    obtain ⟨ys,hy,h⟩:=Option.bind_eq_some_iff.1 h
    split at h
    case isFalse=>cases h
    case isTrue hl =>
      cases h
      refine ⟨hl,fun i hi=>?_⟩
      obtain ⟨_,hg⟩:=u8s_get hy
      have h1:=hg i (by omega)
      rw [List.getElem?_take_of_lt hi,List.getElem?_drop] at h1
      obtain ⟨b',vs,t,fz,hβ,hh,_,hle,hc,_⟩:=hw.ob k _ ho
      have hbb:b' = b:=Bd.at_inj hβ (hb.at ho)
      subst hbb
      rw [cell_at hh]
      have hlt:off + i < cs.length:=by
        rcases Nat.lt_or_ge (off + i) cs.length with h | h
        · exact h
        · rw [List.getElem?_eq_none h] at h1; cases h1
      have hv:vs[off + i]? = some vs[off + i]:=Array.getElem?_eq_getElem (by omega)
      have:=hc _ _ _ h1 hv
      rw [hv]
      have h3:DR G.μ (.sc (.int .u8 (xs.getD i 0))) vs[off + i]:=this
      generalize vs[off + i] = z at h3
      cases h3
      rfl
end Go.Ab
end
section
set_option linter.unusedVariables false
set_option linter.unusedSimpArgs false
namespace Go.Ab
open Go
def tabBase (T:Nat→Option (IntKind×List Int)) (g:Nat) (m:Int) (b i:Nat):Option Value :=
  match T b with
  | some p=>(p.2[i]?).map (.int p.1 ·)
  | none=>if b = g∧i = 0 then some (.int .i64 m) else none
def tabGlob (T:Nat→Option (IntKind×List Int)) (g:Nat):Option (List D):=(T g).map fun p=>p.2.map fun x=>.sc (.int p.1 x)
theorem tab_glob {T:Nat→Option (IntKind×List Int)} {g0:Nat} {m:Int} (g:Nat) (cs:List D) (h:tabGlob T g = some cs) :
    ∃ vs:Nat→Value,∀ (j:Nat) (c:D),cs[j]? = some c→DR (tabBase T g0 m) c (vs j)∧tabBase T g0 m g j = some (vs j):=by
  simp only [tabGlob,Option.map_eq_some_iff] at h
  obtain ⟨p,hp,rfl⟩:=h
  refine ⟨fun j=>.int p.1 (p.2.getD j 0),fun j c hc=>?_⟩
  rw [List.getElem?_map,Option.map_eq_some_iff] at hc
  obtain ⟨x,hx,rfl⟩:=hc
  have hg:p.2.getD j 0 = x:=by simp [List.getD,hx]
  refine ⟨by show DR _ _ (Value.int p.1 (p.2.getD j 0)); rw [hg]; exact .sc _ rfl,?_⟩
  simp only [tabBase,hp,hx,Option.map_some,hg]
theorem laid_at {P:Program} {W:World}:∀ {laid:List (String×DataW Unit)} {ps:List MemPlace},DataW.LaidVars P W laid ps→∀ {n:String} {d:DataW Unit},(n,d) ∈ laid →
    ∃ g t cs fuel p,P.globalNamed n = some g∧(P.globals[g]?).map (·.type) = some t∧W.var? P n = some cs∧DataW.trod (fun _=>()) P W 0 (fun _=>true) false fuel t cs.toList = some (d,p):=by
  intro laid
  induction laid with
  | nil=>intro ps _ n d hm; cases hm
  | cons x r ih =>
    intro ps h n d hm
    obtain ⟨g,t,cs,fuel,p,q,h1,h2,h3,h4,h5,_⟩:=h
    rcases List.mem_cons.1 hm with e | hm
    · cases e; exact ⟨g,t,cs,fuel,p,h1,h2,h3,h4⟩
    · exact ih h5 hm
theorem laid_ints {P:Program} {W:World} {laid:List (String×DataW Unit)} (hL:laidMetH P laid W) (hh:(laid.all fun x=>x.2.handleName?.isNone) = true) {n:String} {l:List Int} {k:IntKind}
    {g N:Nat} {t e:TypeId} (hm:(n,DataW.agg (l.map fun x=>.lit (.int k x))) ∈ laid) (hg:P.globalNamed n = some g) (ht:(P.globals[g]?).map (·.type) = some t) (hu:P.underlying t = some (.array N e)) (hue:P.underlying e = some (.int k)) (hc:P.cellsOf e = 1)
    (hl:l.length = N) (i:Nat) (x:Int) (hx:l[i]? = some x):W.cell? ⟨g,i,none⟩ = some (.int k x):=by
  rw [MakeChecks.laidMetH_plain _ _ _ hh] at hL
  obtain ⟨ps,hV,_⟩:=hL
  obtain ⟨g',t',cs,fuel,p,hg',ht',hv,hd⟩:=laid_at hV hm
  obtain rfl:=Option.some.inj (hg.symm.trans hg')
  obtain rfl:=Option.some.inj (ht.symm.trans ht')
  obtain ⟨xs,m,_,ex,_,hxl,hel⟩:=DataW.trod_array hu hd
  have hi:i < l.length:=lt_of_get hx
  have hE:=hel i (by omega)
  rw [hc,Nat.mul_one,List.getElem?_eq_getElem (by omega)] at hE
  obtain ⟨z,e1,e2,_⟩:=DataW.trod_int hue hE
  have e3:(xs.map (·.1)) = l.map fun x=>(DataW.lit (.int k x):DataW Unit):=(DataW.agg.inj (Prod.mk.inj ex).1).symm
  have e4:(xs.map (·.1))[i]? = (l.map fun x=>(DataW.lit (.int k x):DataW Unit))[i]? := by rw [e3]
  rw [List.getElem?_map,List.getElem?_map,List.getElem?_eq_getElem (by omega:i < xs.length),hx,e2] at e4
  have hz:z = x:=by simpa using e4
  subst hz
  rw [World.var?_cell hg hv i]
  have:cs.toList[i]? = some (.int k z):=by
    have h0:((cs.toList.drop i).take 1)[0]? = some (.int k z):=by rw [e1]; rfl
    simpa using h0
  simpa using this
end Go.Ab
end
section
set_option linter.unusedVariables false
set_option linter.unusedSimpArgs false
namespace Go.Ab
open Go
def pNoZero:List V1→Heap→Option (AV×Heap):=fun args hp=>match args with
  | [.c (.d (.sc (.int .i64 n)))]=>if 0≤n∧n≤2 ^ 24 then some (.v (.c (.slc hp.length 0 1 n.toNat none)),hp ++ [.cells (List.replicate n.toNat .any)]) else none
  | _=>none
theorem digits_one:∀ (n t:Nat) (acc:Array Value),(∀ (i:Nat) v,acc[i]? = some v→v.oneCell' = true)→∀ (i:Nat) v,(Extern.BytealgMakeNoZero.digits n t acc)[i]? = some v→v.oneCell' = true
  | 0,_,_,h=>h
  | n + 1,t,acc,h=>by
    rw [Extern.BytealgMakeNoZero.digits]
    refine digits_one n _ _ fun i v hv=>?_
    rw [Array.getElem?_push] at hv
    split at hv
    · cases hv; rfl
    · exact h i v hv
theorem makeNoZero_run {P:Program} (w:World) (ps:Array TypeId) (t e:TypeId) (ht:P.underlying t = some (.slice e)) (n:Nat) (hn:n≤281474976710656) :
    ∃ cs:Array Value,(Extern.BytealgMakeNoZero.makeNoZero ps #[t] #[.int .i64 n]).run P w = .ok (.slice (some ⟨w.heap.size,0,none⟩) n cs.size) (w.drew.drew.alloc (.cells cs e))∧n≤cs.size∧∀ (i:Nat) v,cs[i]? = some v→v.oneCell' = true:=by
  have hdef:Extern.BytealgMakeNoZero.makeNoZero ps #[t] #[.int .i64 n] =
      (do
        let .slice elem ← underlying t | stuck "bytealg.MakeNoZero: slice type expected"
        if (n:Int) < 0 || (n:Int) > 2 ^ 48 then runtimePanic (.error "makeslice: len out of range")
        let cap ← choose (.appendCap (n:Int).toNat 0 elem)
        askRoom cap
        let bytes ← choose (.extern "internal/bytealg.MakeNoZero.bytes" 0)
        let a ← newRow elem (Extern.BytealgMakeNoZero.digits cap bytes #[])
        pure (.slice (some a) (n:Int).toNat cap)):=rfl
  refine ⟨Extern.BytealgMakeNoZero.digits (grownCap w n 0 e) ((Question.extern "internal/bytealg.MakeNoZero.bytes" 0).cut (w.tape (w.drawn + 1) (.extern "internal/bytealg.MakeNoZero.bytes" 0))) #[],?_,?_,?_⟩
  · rw [hdef]
    have h1:¬ (n:Int) < 0:=by omega
    have h2:¬ (281474976710656:Int) < (n:Int):=by omega
    simp [run_underlying ht,h1,h2,Question.forced,newRow,Lib.size_digits,grownCap]
  · rw [Lib.size_digits]
    simpa using grownCap_ge w n 0 e
  · exact digits_one _ _ _ fun i v hv=>by simp at hv
theorem pNoZero_ok {E:Env} {f:FuncId} {fn:Func} {ps:Array TypeId} {t e:TypeId} (ht:E.P.underlying t = some (.slice e))
    (hc:∀ (args:Array Value) (w:World),(callFunc f args).run E.P w = ((Extern.BytealgMakeNoZero.makeNoZero ps #[t] args).run E.P w).andThen fun v w'=>.ok (.value v) w'):ExtP E f pNoZero:=by
  intro args hp v h' hp' G w vs hb hw ha
  unfold pNoZero at hp'
  split at hp'
  case h_2=>cases hp'
  rename_i n
  split at hp'
  case isFalse=>cases hp'
  rename_i hn
  simp only [Option.some.injEq,Prod.mk.injEq] at hp'
  obtain ⟨rfl,rfl⟩:=hp'
  obtain ⟨v1,h1,rfl⟩:∃ a,VR G hp (.c (.d (.sc (.int .i64 n)))) a∧vs = [a]:=by
    cases ha with | cons h t=>cases t; exact ⟨_,h,rfl⟩
  have h1':DR G.μ (.sc (.int .i64 n)) v1:=h1
  obtain rfl:v1 = .int .i64 n:=by cases h1'; rfl
  obtain ⟨m,rfl⟩:∃ m:Nat,n = m:=⟨n.toNat,by omega⟩
  obtain ⟨cs,hrun,hle,hone⟩:=makeNoZero_run (P:=E.P) w ps t e ht m (by omega)
  obtain ⟨G',hw',sn,hi,htop⟩:=new_room (w':=w.drew.drew.alloc (.cells cs e)) (cs:=List.replicate m .any) (vs:=cs) (t:=e) (fz:=(0,0)) (sz:=1) (cap:=cs.size) hw rfl (fz0 _) (by rw [List.length_replicate]; exact hle) (by omega)
    (fun i c v hc hv=>by
      rw [List.getElem?_replicate] at hc
      split at hc
      · cases hc; exact hone i v hv
      · cases hc)
  refine ⟨.slice (some ⟨w.heap.size,0,none⟩) m cs.size,w.drew.drew.alloc (.cells cs e),G',?_,?_,hw',sn⟩
  · show (callFunc f #[Value.int .i64 (m:Int)]).run E.P w = _
    rw [hc,hrun]
    rfl
  · exact ⟨w.heap.size,cs.size,0,hi,by simp,by simpa using hle,fun c' h=>(by cases h),fun _=>rfl,fun _ _=>.inr (by show 0 + cs.size * 1≤_; rw [htop]; omega)⟩
def eCount:List Value→Option Value:=fun vs=>match vs with
  | [.string s,.int .u8 c]=>some (.int .i64 (Lib.countByte s.data.toList c.toNat.toUInt8))
  | _=>none
theorem eCount_ok {P:Program} {f:FuncId} (hc:∀ (args:Array Value) (w:World),(callFunc f args).run P w = ((Extern.BytealgCount.count args).run P w).andThen fun v w'=>.ok (.value v) w')
    (vs:List Value) (r:Value) (h:eCount vs = some r) (w:World):(callFunc f vs.toArray).run P w = .ok (.value r) w:=by
  unfold eCount at h
  split at h
  · cases h
    rw [hc]
    rw [Lib.run_countString]
    rfl
  · cases h
def eIndexByte:List Value→Option Value:=fun vs=>match vs with
  | [.string s,.int .u8 c]=>some (.int .i64 (Lib.indexByte s.data.toList c.toNat.toUInt8))
  | _=>none
theorem eIndexByte_ok {P:Program} {f:FuncId} (hc:∀ (args:Array Value) (w:World),(callFunc f args).run P w = ((Extern.BytealgIndexByte.indexByte args).run P w).andThen fun v w'=>.ok (.value v) w')
    (vs:List Value) (r:Value) (h:eIndexByte vs = some r) (w:World):(callFunc f vs.toArray).run P w = .ok (.value r) w:=by
  unfold eIndexByte at h
  split at h
  · cases h
    rw [hc]
    rw [Lib.run_indexByteString]
    rfl
  · cases h
def u8L:List (List D)→Option (List Int)
  | []=>some []
  | [.sc (.int .u8 n)] :: r=>(u8L r).map (n :: ·)
  | _=>none
theorem u8L_get:∀ {cs:List (List D)} {xs:List Int},u8L cs = some xs→xs.length = cs.length∧∀ (i:Nat),i < xs.length→cs[i]? = some [.sc (.int .u8 (xs.getD i 0))]:=by
  intro cs
  induction cs with
  | nil=>intro xs h; cases h; exact ⟨rfl,fun i hi=>absurd hi (Nat.not_lt_zero _)⟩
  | cons c cs ih =>
    intro xs h
    unfold u8L at h
    split at h
    · rename_i e; cases e
    · rename_i n r e
      cases e
      obtain ⟨ys,hy,rfl⟩:=Option.map_eq_some_iff.1 h
      obtain ⟨h1,h2⟩:=ih hy
      refine ⟨by simp [h1],fun i hi=>?_⟩
      cases i with
      | zero=>rfl
      | succ i=>simpa using h2 i (by simpa using hi)
    · cases h
def bytesC (hp:Heap):C→Option (List Int)
  | .slc k off _ len _=>bytesAtO hp k off len
  | x=>x.list.bind fun p=>u8L p.2
theorem bytesC_ok {G:Gh} {hp:Heap} {w:World} {x:C} {xs:List Int} {v:Value} (hw:WR G hp w) (h:bytesC hp x = some xs) (r:CR G hp x v) :
    ∃ a cap,v = .slice a xs.length cap∧(xs = []∨∃ b off,a = some ⟨b,off,none⟩∧∀ i,i < xs.length→w.cell? ⟨b,off + i,none⟩ = some (.int .u8 (xs.getD i 0))):=by
  have other:∀ nl es,x.list = some (nl,es)→(x.list.bind fun p=>u8L p.2) = some xs→∃ a cap,v = .slice a xs.length cap∧(xs = []∨∃ b off,a = some ⟨b,off,none⟩∧∀ i,i < xs.length→w.cell? ⟨b,off + i,none⟩ = some (.int .u8 (xs.getD i 0))):=by
    intro nl es hl h
    rw [hl] at h
    obtain ⟨hlen,hget⟩:=u8L_get (show u8L es = some xs from h)
    obtain ⟨ad,cap,sz,vs,rfl,h1,h2,h3,hsp,h4,h5,h6⟩:=DR.inv (list_dr hl r)
    refine ⟨ad,cap,by rw [hlen],?_⟩
    cases ad with
    | none=>exact .inl (List.eq_nil_of_length_eq_zero (by have:=h3 rfl; omega))
    | some ad =>
      obtain ⟨b,o,sp⟩:=ad
      by_cases hne:es = []
      · exact .inl (List.eq_nil_of_length_eq_zero (by rw [hlen,hne]; rfl))
      have e:sp = none:=hsp hne _ rfl
      subst e
      refine .inr ⟨b,o,rfl,fun i hi=>?_⟩
      have he:=hget i hi
      obtain ⟨b',o',e1,e2⟩:=h6 i 0 _ _ he rfl
      cases e1
      have hs:sz = 1:=(h4 _ (List.mem_of_getElem? he)).symm
      subst hs
      have hd:=h5 i 0 _ _ he rfl
      have h7:=hw.mu _ _ _ e2
      rw [show o + i * 1 + 0 = o + i by omega] at h7
      rw [h7]
      generalize vs i 0 = z at hd
      cases hd
      rfl
  cases x with
  | slc k off sz len cap =>
    obtain ⟨b,c,off',hib,rfl,hlc,hcap,hoff,_⟩:=r
    obtain ⟨hl,hcell⟩:=bytesAtO_ok hw h hib
    subst hl
    refine ⟨_,c,rfl,.inr ⟨b,off',rfl,fun i hi=>?_⟩⟩
    have:off' = off:=hoff (by omega)
    subst this
    exact hcell i hi
  | d x=>cases x with
    | sc v=>simp [bytesC,C.list] at h
    | lst nl es=>exact other _ _ rfl h
  | own nl es k=>exact other _ _ rfl h
  | _=>simp [bytesC,C.list] at h
def pIndexB:List V1→Heap→Option (AV×Heap):=fun args hp=>match args with
  | [.c x,.c (.d (.sc (.int .u8 c)))]=>(bytesC hp x).map fun xs=>(.int .i64 (Lib.indexByte (Lib.bytesOf xs) c.toNat.toUInt8),hp)
  | _=>none
theorem pIndexB_ok {E:Env} {f:FuncId} (hc:∀ (args:Array Value) (w:World),(callFunc f args).run E.P w = ((Extern.BytealgIndexByte.indexByte args).run E.P w).andThen fun v w'=>.ok (.value v) w'):ExtP E f pIndexB:=by
  intro args hp v h' hp' G w vs hb hw ha
  unfold pIndexB at hp'
  split at hp'
  case h_2=>cases hp'
  rename_i x c
  obtain ⟨xs,hx,h⟩:=Option.map_eq_some_iff.1 hp'
  cases h
  obtain ⟨v1,r1,h1,t1,rfl⟩:∃ a l,VR G hp (.c x) a∧All2 (VR G hp) [.c (.d (.sc (.int .u8 c)))] l∧vs = a :: l:=by
    cases ha with | cons h t=>exact ⟨_,_,h,t,rfl⟩
  obtain ⟨v2,h2,rfl⟩:∃ a,VR G hp (.c (.d (.sc (.int .u8 c)))) a∧r1 = [a]:=by
    cases t1 with | cons h t=>cases t; exact ⟨_,h,rfl⟩
  have h2':DR G.μ (.sc (.int .u8 c)) v2:=h2
  obtain rfl:v2 = .int .u8 c:=by cases h2'; rfl
  obtain ⟨a,cap,rfl,hcase⟩:=bytesC_ok hw hx h1
  refine ⟨_,w,G,?_,.sc (.int .i64 (Lib.indexByte (Lib.bytesOf xs) c.toNat.toUInt8)) rfl,hw,Sn.refl _ _ _⟩
  show (callFunc f #[.slice a xs.length cap,.int .u8 c]).run E.P w = _
  rw [hc]
  rcases hcase with rfl | ⟨b,off,rfl,hcell⟩
  · cases a with
    | none=>rw [Lib.run_indexByteNil]; rfl
    | some a =>
      have hs:(Extern.BytealgIndexByte.indexByte #[.slice (some a) 0 cap,.int .u8 c]).run E.P w = .ok (.int .i64 (-1)) w:=Lib.run_indexByteString (P:=E.P) .empty c w
      rw [show ([]:List Int).length = 0 from rfl,hs]
      rfl
  · rw [Lib.run_indexByteSlice w b off xs.length cap xs rfl hcell]
    rfl
end Go.Ab
end
section
set_option linter.unusedVariables false
set_option linter.unusedSimpArgs false
namespace Go.Ab
open Go
def bs (l:List Nat):ByteArray:=⟨(l.map UInt8.ofNat).toArray⟩
end Go.Ab
namespace Go.Ab
open Go
end Go.Ab
end
section
set_option linter.unusedVariables false
set_option linter.unusedSimpArgs false
namespace Go.Ab
open Go
theorem mkNw_f (x:V1):mkNw false x = x:=by
  unfold mkNw
  split <;> rfl
def mIx (s t:Bs):Option Int:=if s.length < 4294967281 then some (Lib.index s t) else none
theorem pIndex_t (s t:Bs) (hp:Heap):pIndex [.c (.d (.sc (.string (S s)))),.c (.d (.sc (.string (S t))))] hp = (mIx s t).map fun x=>(.v (.c (.d (.sc (.int .i64 x)))),hp):=by
  unfold pIndex mIx
  have h:(S s).size = s.length:=S_size s
  simp only [h,S_toList]
  split <;> rfl
theorem ev_eqB (P:Program) (t:TypeId) (x y:Operand) (a b:Bool) (h:P.underlying t = some .bool):evalS P (do eqGuard .eql t x y (.bool a) (.bool b); binOp .eql t (.bool a) (.bool b)) = some (.bool (a == b)):=by
  have e:evalS P (do eqGuard .eql t x y (.bool a) (.bool b); binOp .eql t (.bool a) (.bool b)) = evalS P (do let r ← Op.equalIn (9999+1) t (.bool a) (.bool b); pure (.bool r)):=rfl
  rw [e]
  unfold Op.equalIn
  simp only [evalS_bind,evalS_und,h,Option.bind_some]
  rfl
theorem ev_neB (P:Program) (t:TypeId) (x y:Operand) (a b:Bool) (h:P.underlying t = some .bool):evalS P (do eqGuard .neq t x y (.bool a) (.bool b); binOp .neq t (.bool a) (.bool b)) = some (.bool (!(a == b))):=by
  have e:evalS P (do eqGuard .neq t x y (.bool a) (.bool b); binOp .neq t (.bool a) (.bool b)) = evalS P (do let r ← Op.equalIn (9999+1) t (.bool a) (.bool b); pure (.bool (!r))):=rfl
  rw [e]
  unfold Op.equalIn
  simp only [evalS_bind,evalS_und,h,Option.bind_some]
  rfl
end Go.Ab
end
section
set_option linter.all false
set_option linter.unusedVariables false
set_option linter.unusedSimpArgs false
namespace Go.Ab
open Go
def set0:=And.intro @den_seq (And.intro @den_cond (And.intro @den_block (And.intro @den_skip (And.intro @den_ret (And.intro @den_exit (And.intro @den_goto (And.intro @seqD_n (And.intro @seqD_r (And.intro @seqD_e (And.intro @seqD_g (And.intro @condD_t (And.intro @condD_f (And.intro @condD_if (And.intro @blockD_n (And.intro @blockD_r (And.intro @blockD_e (And.intro @blockD_e' (And.intro @blockD_g (And.intro @regD_s (And.intro @loopD_s (And.intro @runOps_nil (And.intro @runOps_none (And.intro @runOps_some (And.intro @runK_t (And.intro @runK_f (And.intro @stepK_s (And.intro @bodyD_r (And.intro @bodyD_n (And.intro @loopK_n (And.intro @loopK_r (And.intro @loopK_e (And.intro @loopK_g (And.intro @stepE_l (And.intro @stepE_r (And.intro @stepE_n (And.intro @sm_l (And.intro @sm_r (And.intro @upd_same (@upd_ne)))))))))))))))))))))))))))))))))))))))
def set1:=And.intro @toV_sc (And.intro @toV1_sc (And.intro @slots_z (And.intro @slots_n (And.intro @slotsOf_z (And.intro @slotsOf_s (And.intro @mkV_t (And.intro @mkV_1 (And.intro @slots0 (And.intro @ev_sub (And.intro @ev_add (And.intro @ev_mul (And.intro @ev_quo (And.intro @ev_rem (And.intro @ev_lss (And.intro @ev_leq (And.intro @ev_gtr (And.intro @ev_geq (And.intro @ev_eql (And.intro @ev_neq (And.intro @ev_not (And.intro @ev_cat (And.intro @ev_eqS (And.intro @ev_neS (And.intro @ev_eqB (And.intro @ev_neB (And.intro @ev_conv (And.intro @ofV_u8 (And.intro @ofV_i64 (And.intro @ofV_u64 (And.intro @ofV_i32 (And.intro @ofV_u32 (And.intro @ofV_u8n (And.intro @ofV_bool (And.intro @ofV_str (And.intro @mkS (And.intro @S_size (And.intro @S_getD (And.intro @S_append (@S_extract)))))))))))))))))))))))))))))))))))))))
def set2:=And.intro @encB_S (And.intro @bytesOf_en (And.intro @enL_length (And.intro @enL_take (And.intro @enL_drop (And.intro @enB_a (And.intro @rz_t (And.intro @rz_f (And.intro @wr_w64 (And.intro @wr_wu64 (And.intro @wr_w32 (And.intro @wr_wu32 (And.intro @wr_u8 (And.intro @w64_lit (And.intro @w64_nlit (And.intro @wu64_lit (And.intro @w64_u8 (And.intro @wu64_u8 (And.intro @w32_u8 (And.intro @wu32_u8 (And.intro @u8_u8 (And.intro @u8_add (And.intro @u8_sub (And.intro @u8_mul (And.intro @u8_lt (And.intro @u8_le (And.intro @u8_eq (And.intro @bnd_zero (And.intro @bnd_self (And.intro @mkNw_f (And.intro @Option.map_some.{0,0} (And.intro @Option.bind_some.{0,0} (And.intro @Option.bind_eq_bind.{0} (And.intro @Option.getD_some.{0} (And.intro @Option.bind_none.{0,0} (And.intro @Option.map_none.{0,0} (And.intro @not_false_eq_true (And.intro @List.mapM_cons.{0,0,0} (And.intro @List.mapM_nil.{0,0,0} (@List.flatMap_cons.{0,0})))))))))))))))))))))))))))))))))))))))
def set3:=And.intro @List.flatMap_nil.{0,0} (And.intro @List.append_nil.{0} (And.intro @List.range_zero (And.intro @List.take_nil.{0} (And.intro @List.length_nil.{0} (And.intro @List.take_zero.{0} (And.intro @Option.pure_def.{0} (And.intro @nc_lit (And.intro @rg0 (And.intro @rg1 (And.intro @rg2 (And.intro @rg3 (And.intro @rg4 (And.intro @List.length_cons.{0} (And.intro @List.cons_append.{0} (And.intro @List.nil_append.{0} (And.intro @List.mem_cons.{0} (And.intro @List.not_mem_nil.{0} (And.intro @or_false (And.intro @false_or (And.intro @List.getD_cons_zero.{0} (And.intro @List.getD_cons_succ.{0} (And.intro @List.getElem?_cons_zero.{0} (And.intro @List.getElem?_cons_succ.{0} (And.intro @List.idxOf?_cons.{0} (And.intro @BEq.rfl.{0} (And.intro @List.take_succ_cons.{0} (And.intro @List.all_nil.{0} (And.intro @and_self (And.intro @true_and (And.intro @and_true (And.intro @List.drop_zero.{0} (And.intro @List.drop_succ_cons.{0} (And.intro @Nat.zero_add (And.intro @Nat.mul_one (And.intro @Int.toNat_natCast (And.intro @Int.toNat_zero (And.intro @List.map_cons.{0,0} (And.intro @List.map_nil.{0,0} (@decide_true)))))))))))))))))))))))))))))))))))))))
def set4:=And.intro @decide_false (And.intro @or_true (And.intro @true_or (And.intro @Bool.false_eq_true (And.intro @false_and (And.intro @and_false (And.intro @beq_self_eq_true.{0} (And.intro @Bool.not_true (And.intro @Bool.not_false (And.intro @Array.isEmpty_empty.{0} (And.intro @Bool.and_self (And.intro @List.zip_cons_cons.{0,0} (And.intro @List.zip_nil_left.{0,0} (And.intro @List.zip_nil_right.{0,0} (And.intro @List.foldl_cons.{0,0} (And.intro @List.foldl_nil.{0,0} (And.intro @List.set_cons_zero.{0} (And.intro @List.set_cons_succ.{0} (And.intro @List.drop_nil.{0} (And.intro @List.getD_nil.{0} (And.intro @List.getElem?_nil.{0} (And.intro @List.drop_length.{0} (And.intro @List.set_nil.{0} (And.intro @Nat.sub_zero (And.intro @Nat.sub_self (And.intro @Nat.add_zero (And.intro @List.replicate_succ.{0} (And.intro @List.replicate_zero.{0} (And.intro @List.flatten_cons.{0} (And.intro @List.flatten_nil.{0} (And.intro @Bool.false_and (And.intro @Bool.true_and (And.intro @List.getElem?_toArray.{0} (And.intro @Bool.and_true (And.intro @Bool.and_false (And.intro @List.take_length.{0} (And.intro @Nat.add_one_le_iff (And.intro @Bool.true_eq_false (And.intro @Bool.not_not (@beqT)))))))))))))))))))))))))))))))))))))))
def set5:=And.intro @beqF (And.intro @stepK_x (And.intro @runK_x (And.intro @regD_x (And.intro @seqD_x (And.intro @blockD_x (And.intro @condD_x (And.intro @loopK_x (And.intro @bodyD_x (@Option.some.injEq.{0})))))))))
def setA:=And.intro set0 (And.intro set1 (And.intro set2 (And.intro set3 (And.intro set4 (set5)))))
end Go.Ab
end
section
set_option linter.unusedVariables false
set_option linter.unusedSimpArgs false
namespace Go.Ab
open Go
def mTrim (s t:Bs):Option Bs:=if s.length≤9223372036854775807∧t.length < 4294967281∧t.all (fun b=>decide (b.toNat < 128)) = true then some (Lib.trimS s t) else none
theorem pTrim_t (s t:Bs) (hp:Heap):pTrim [.c (.d (.sc (.string (S s)))),.c (.d (.sc (.string (S t))))] hp = (mTrim s t).map fun x=>(.v (.c (.d (.sc (.string (S x))))),hp):=by
  unfold pTrim mTrim asciiB
  have h:(S s).size = s.length:=S_size s
  have h':(S t).size = t.length:=S_size t
  simp only [h,h',S_toList]
  split <;> rfl
end Go.Ab
end
section
set_option linter.unusedVariables false
set_option linter.unusedSimpArgs false
namespace Go.Ab
open Go
def byC (c:UInt8):C:=.d (.sc (.int .u8 (c.toNat:Int)))
def enC (l:Bs):List C:=l.map byC
def enD (l:Bs):List D:=l.map fun c=>.sc (.int .u8 (c.toNat:Int))
theorem enC_S (s:Bs):((S s).data.toList.map fun c=>C.d (.sc (.int .u8 (c.toNat:Int)))) = enC s:=by rw [S_toList]; rfl
theorem enC_length (l:Bs):(enC l).length = l.length:=by simp [enC]
theorem enC_all (l:Bs):(enC l).all C.isD = true:=by simp [enC,byC,C.isD]
theorem enC_take (l:Bs) (n:Nat):(enC l).take n = enC (l.take n):=by simp [enC,List.map_take]
theorem enC_load (l:Bs) (k:Nat) (h:k < l.length):((enC l).drop k).take 1 = [.d (.sc (.int .u8 ((l.getD k 0).toNat:Int)))]:=by
  have:k < (enC l).length:=by rw [enC_length]; exact h
  rw [List.drop_eq_getElem_cons this,List.take_succ_cons,List.take_zero]
  simp [enC,byC,List.getD_eq_getElem?_getD,h]
theorem enC_wr (l:Bs) (k:Nat) (x:UInt8):wr (enC l) k [.d (.sc (.int .u8 (x.toNat:Int)))] = enC (l.set k x):=by
  induction l generalizing k with
  | nil=>cases k <;> rfl
  | cons c l ih =>
    cases k with
    | zero =>
      show wr (byC c :: enC l) 0 _ = byC x :: enC l
      simp only [wr,byC]
      congr 1
      cases enC l <;> rfl
    | succ k =>
      show wr (byC c :: enC l) (k + 1) _ = byC c :: enC (l.set k x)
      rw [← ih k]
      rfl
theorem mapM_enC (l:Bs):(enC l).mapM C.toD = some (enD l):=by
  induction l with
  | nil=>rfl
  | cons c l ih =>
    have:enC (c :: l) = byC c :: enC l:=rfl
    rw [this,List.mapM_cons,ih]
    rfl
theorem chunk_enD (n:Nat) (l:Bs) (h:n≤l.length):chunk 1 n (enD (l.take n)) = enL enB (l.take n):=by
  induction n generalizing l with
  | zero=>rfl
  | succ n ih =>
    cases l with
    | nil=>simp at h
    | cons c l =>
      have:=ih l (by simpa using h)
      simp only [List.take_succ_cons]
      show chunk 1 (n + 1) (.sc (.int .u8 (c.toNat:Int)) :: enD (l.take n)) = enB c :: enL enB (l.take n)
      rw [← this]
      rfl
def uc (s:Bs) (p:Nat):Nat:=(Utf8.decode (S s) p).1
def uw (s:Bs) (p:Nat):Nat:=(Utf8.decode (S s) p).2
theorem dec_eq (s:Bs) (p:Nat):Utf8.decode (S s) p = (uc s p,uw s p):=rfl
theorem eIndexByte_t (s:Bs) (c:UInt8):eIndexByte [.string (S s),.int .u8 (c.toNat:Int)] = some (.int .i64 (Lib.indexByte s c)):=by
  show some (Value.int .i64 (Lib.indexByte (S s).data.toList ((c.toNat:Int).toNat.toUInt8))) = _
  rw [S_toList]
  simp
theorem eCount_t (s:Bs) (c:UInt8):eCount [.string (S s),.int .u8 (c.toNat:Int)] = some (.int .i64 (Lib.countByte s c)):=by
  show some (Value.int .i64 (Lib.countByte (S s).data.toList ((c.toNat:Int).toNat.toUInt8))) = _
  rw [S_toList]
  simp
section
variable (P:Program) (t:TypeId) (x y:Operand)
theorem u8bv (a:UInt8):BitVec.ofInt 8 (a.toNat:Int) = a.toBitVec:=by
  apply BitVec.eq_of_toNat_eq
  simp
theorem wr8 (a:UInt8):IntKind.wrap .u8 (a.toNat:Int) = (a.toNat:Int):=by rw [wr_u8,u8_u8]
theorem ev_or8 (a b:UInt8):evalS P (do eqGuard .or t x y (.int .u8 (a.toNat:Int)) (.int .u8 (b.toNat:Int)); binOp .or t (.int .u8 (a.toNat:Int)) (.int .u8 (b.toNat:Int))) = some (.int .u8 ((a ||| b).toNat:Int)):=by
  have:evalS P (do eqGuard .or t x y (.int .u8 (a.toNat:Int)) (.int .u8 (b.toNat:Int)); binOp .or t (.int .u8 (a.toNat:Int)) (.int .u8 (b.toNat:Int))) = some (.int .u8 (IntKind.wrap .u8 ((BitVec.ofInt 8 (a.toNat:Int) ||| BitVec.ofInt 8 (b.toNat:Int)).toNat:Int))):=rfl
  rw [this,u8bv,u8bv,← UInt8.toBitVec_or]
  exact congrArg (fun z=>some (Value.int .u8 z)) (wr8 (a ||| b))
theorem ev_and8 (a b:UInt8):evalS P (do eqGuard .and t x y (.int .u8 (a.toNat:Int)) (.int .u8 (b.toNat:Int)); binOp .and t (.int .u8 (a.toNat:Int)) (.int .u8 (b.toNat:Int))) = some (.int .u8 ((a &&& b).toNat:Int)):=by
  have:evalS P (do eqGuard .and t x y (.int .u8 (a.toNat:Int)) (.int .u8 (b.toNat:Int)); binOp .and t (.int .u8 (a.toNat:Int)) (.int .u8 (b.toNat:Int))) = some (.int .u8 (IntKind.wrap .u8 ((BitVec.ofInt 8 (a.toNat:Int) &&& BitVec.ofInt 8 (b.toNat:Int)).toNat:Int))):=rfl
  rw [this,u8bv,u8bv,← UInt8.toBitVec_and]
  exact congrArg (fun z=>some (Value.int .u8 z)) (wr8 (a &&& b))
theorem ev_xor8 (a b:UInt8):evalS P (do eqGuard .xor t x y (.int .u8 (a.toNat:Int)) (.int .u8 (b.toNat:Int)); binOp .xor t (.int .u8 (a.toNat:Int)) (.int .u8 (b.toNat:Int))) = some (.int .u8 ((a ^^^ b).toNat:Int)):=by
  have:evalS P (do eqGuard .xor t x y (.int .u8 (a.toNat:Int)) (.int .u8 (b.toNat:Int)); binOp .xor t (.int .u8 (a.toNat:Int)) (.int .u8 (b.toNat:Int))) = some (.int .u8 (IntKind.wrap .u8 ((BitVec.ofInt 8 (a.toNat:Int) ^^^ BitVec.ofInt 8 (b.toNat:Int)).toNat:Int))):=rfl
  rw [this,u8bv,u8bv,← UInt8.toBitVec_xor]
  exact congrArg (fun z=>some (Value.int .u8 z)) (wr8 (a ^^^ b))
end
theorem slots4 (a b c d:V1):slotsOf [a,b,c,d] = upd (upd (upd (upd (fun _=>.dead) 0 (.v a)) 1 (.v b)) 2 (.v c)) 3 (.v d):=by
  funext i
  rcases i with _ | _ | _ | _ | i <;> simp [slotsOf,upd]
theorem slots5 (a b c d e:V1):slotsOf [a,b,c,d,e] = upd (upd (upd (upd (upd (fun _=>.dead) 0 (.v a)) 1 (.v b)) 2 (.v c)) 3 (.v d)) 4 (.v e):=by
  funext i
  rcases i with _ | _ | _ | _ | _ | i <;> simp [slotsOf,upd]
end Go.Ab
end
section
set_option linter.unusedVariables false
set_option linter.unusedSimpArgs false
namespace Go.Ab
open Go
def footT (s:Nat→AV) (hp hp':Heap) (o:Oper):Option Bool→Foot
  | some true=>foot0 (readsO s o)
  | some false=>(none,hp.length,chgA s hp hp' o)
  | none=>foot0 []
def hdT (ts:List (Option Bool)):Option Bool:=match ts with | t :: _=>t | []=>none
def tlT (ts:List (Option Bool)):List (Option Bool):=match ts with | _ :: l=>l | []=>[]
def runF (E:Env) (call:Caller) (all:List Oper):List Oper→List (Option Bool)→St→List Foot→Option (St×List Foot)
  | [],_,st,F=>some (st,F)
  | o :: os,ts,st,F=>match wantA all st.sl o with
    | some true=>match stepA E call st.sl st.hp o with
      | some (v,h)=>runF E call all os (tlT ts) ⟨putO st.sl o.dst v,h⟩ (F ++ [footT st.sl st.hp h o (hdT ts)])
      | none=>none
    | some false=>runF E call all os (tlT ts) ⟨putO st.sl o.dst (.tup []),st.hp⟩ (F ++ [footT st.sl st.hp st.hp o (hdT ts)])
    | none=>none
def maskF:List (Option Bool)→List Foot→List Foot
  | _,[]=>[]
  | ts,f :: fs=>(match hdT ts with | none=>foot0 [] | some _=>f) :: maskF (tlT ts) fs
def tagsOk (E:Env):List Oper→List (Option Bool)→Bool
  | [],_=>true
  | o :: os,ts=>(match hdT ts with | none=>true | some b=>b == neutralG E o) && tagsOk E os (tlT ts)
section
variable {E:Env}
theorem evC_restr {all:List Oper} {o:Oper} {sl:Nat→AV} {x:Operand} (h:x ∈ o.op.operands):evC (restr (lookL all o) sl) x = evC sl x:=by
  unfold evC; rw [restr_ev x h]
theorem reads_restr {all:List Oper} {o:Oper} {sl:Nat→AV}:readsO (restr (lookL all o) sl) o = readsO sl o:=by
  unfold readsO
  cases hop:o.op <;> try rfl
  all_goals (simp only; rw [evC_restr (by rw [hop]; simp [Op.operands])])
theorem chg_restr {all:List Oper} {o:Oper} {sl:Nat→AV} {h h':Heap}:chgA (restr (lookL all o) sl) h h' o = chgA sl h h' o:=by
  funext k
  unfold chgA
  cases hop:o.op <;> try rfl
  rename_i c
  simp only
  split
  · rename_i a0 l hc hl
    have:ev1 (restr (lookL all o) sl) a0 = ev1 sl a0:=by
      unfold ev1
      rw [restr_ev a0 (by
        rw [hop]
        simp only [Op.operands,Call.operands,Array.mem_append]
        right
        have:a0 ∈ c.args.toList:=by rw [hl]; exact .head _
        simpa using this)]
    rw [this]
  · rfl
theorem foot_restr {all:List Oper} {o:Oper} {sl:Nat→AV} {h h':Heap}:footA E (restr (lookL all o) sl) h h' o = footT sl h h' o (some (neutralG E o)):=by
  have e1:∀ s,footA E s h h' o = if neutralG E o then foot0 (readsO s o) else (none,h.length,chgA s h h' o):=fun s=>rfl
  rw [e1]
  cases hn:neutralG E o
  · simp only [Bool.false_eq_true,if_false,footT,chg_restr]
  · simp only [if_true,footT,reads_restr]
theorem runF_eq {c:Caller} {all:List Oper}:∀ (os:List Oper) (ts:List (Option Bool)) (st:St) (F:List Foot),tagsOk E os ts = true →
    runF E c all os ts st F = (runD E c all os st).map fun r=>(r.1,F ++ maskF ts r.2):=by
  intro os
  induction os with
  | nil=>intro ts st F _; simp [runF,runD,maskF]
  | cons o os ih =>
    intro ts st F ht
    simp only [tagsOk,Bool.and_eq_true] at ht
    have hf:∀ h',footT st.sl st.hp h' o (hdT ts) = (match hdT ts with | none=>foot0 [] | some _=>footA E (restr (lookL all o) st.sl) st.hp h' o):=by
      intro h'
      cases hh:hdT ts with
      | none=>rfl
      | some b =>
        have:=ht.1
        rw [hh] at this
        simp only [beq_iff_eq] at this
        rw [this,foot_restr]
    simp only [runD,stepR,core_restr,runF]
    unfold coreA
    cases hw:wantA all st.sl o with
    | none=>rfl
    | some b =>
      cases b with
      | false =>
        simp only [Option.map_some,Option.bind_some,Option.map_map]
        rw [ih _ _ _ ht.2,hf]
        congr 1
        funext r
        simp [maskF]
      | true =>
        cases hs:stepA E c st.sl st.hp o with
        | none=>rfl
        | some r =>
          simp only [Option.map_some,Option.bind_some,Option.map_map]
          rw [ih _ _ _ ht.2,hf]
          congr 1
          funext r
          simp [maskF]
theorem mask_get:∀ (F:List Foot) (ts:List (Option Bool)) (i:Nat),(ts.getD i none).isSome = true→(maskF ts F).getD i (foot0 []) = F.getD i (foot0 []):=by
  intro F
  induction F with
  | nil=>intro ts i _; simp [maskF]
  | cons f F ih =>
    intro ts i h
    cases ts with
    | nil=>simp at h
    | cons t ts =>
      cases i with
      | zero =>
        simp only [List.getD_cons_zero] at h
        cases t with
        | none=>simp at h
        | some b=>simp [maskF,hdT]
      | succ i =>
        simp only [List.getD_cons_succ] at h
        have:=ih ts i h
        simp only [maskF,tlT,List.getD_cons_succ]
        exact this
end
def ckF (fl:List (Nat×Nat)) (r:St×List Foot):Option St:=if fl.all (fun p=>pairOk (r.2.getD p.1 (foot0 [])) (r.2.getD p.2 (foot0 []))) = true then some r.1 else none
theorem den_dF {E:Env} {fn:FuncId} {m:Nat} {call:Caller} {it:It} {c:Code} {st:St} {ts:List (Option Bool)} {fl:List (Nat×Nat)}
    (h:(isDr c && (drawOk E (opsOf c) && (decide (floats E (opsOf c) = fl) && (tagsOk E (opsOf c) ts && fl.all fun p=>(ts.getD p.1 none).isSome && (ts.getD p.2 none).isSome)))) = true) :
    den E fn m call it c none st = regD ((runF E call (opsOf c) (opsOf c) ts st []).bind (ckF fl)):=by
  cases c <;> simp only [isDr,Bool.false_and,Bool.false_eq_true] at h
  simp only [Bool.and_eq_true,decide_eq_true_eq] at h
  obtain ⟨h1,h2,h3,h4,h5⟩:=h
  subst h1
  rename_i id ops
  rw [den_draw E fn m call it id ops st h2,runF_eq _ _ _ _ h4]
  unfold runDraw
  have h3:floats E ops.toList = fl:=h3
  rw [h3]
  show regD _ = regD _
  congr 1
  show (runD E call ops.toList ops.toList st).bind _ = Option.bind (Option.map _ (runD E call ops.toList ops.toList st)) (ckF fl)
  cases runD E call ops.toList ops.toList st with
  | none=>rfl
  | some r =>
    simp only [Option.map_some,Option.bind_some,List.nil_append,ckF]
    have:(fl.all fun p=>pairOk (r.2.getD p.1 (foot0 [])) (r.2.getD p.2 (foot0 []))) = fl.all fun p=>pairOk ((maskF ts r.2).getD p.1 (foot0 [])) ((maskF ts r.2).getD p.2 (foot0 [])):=by
      rw [Bool.eq_iff_iff,List.all_eq_true,List.all_eq_true]
      have:=List.all_eq_true.1 h5
      constructor
      · intro h p hp
        have hh:=this p hp
        simp only [Bool.and_eq_true] at hh
        rw [mask_get _ _ _ hh.1,mask_get _ _ _ hh.2]
        exact h p hp
      · intro h p hp
        have hh:=this p hp
        simp only [Bool.and_eq_true] at hh
        have:=h p hp
        rwa [mask_get _ _ _ hh.1,mask_get _ _ _ hh.2] at this
    rw [this]
section
variable (E:Env) (call:Caller)
def runKF (all os:List Oper) (o:Oper) (ts:List (Option Bool)) (st:St) (F:List Foot) (r:Option Bool):Option (St×List Foot):=match r with
  | some true=>(match stepA E call st.sl st.hp o with
    | some (v,h)=>runF E call all os (tlT ts) ⟨putO st.sl o.dst v,h⟩ (F ++ [footT st.sl st.hp h o (hdT ts)])
    | none=>none)
  | some false=>runF E call all os (tlT ts) ⟨putO st.sl o.dst (.tup []),st.hp⟩ (F ++ [footT st.sl st.hp st.hp o (hdT ts)])
  | none=>none
def stepKF (all os:List Oper) (d:Option Nat) (ts:List (Option Bool)) (st:St) (o:Oper) (F:List Foot) (r:Option (AV×Heap)):Option (St×List Foot):=match r with
  | some (v,h)=>runF E call all os (tlT ts) ⟨putO st.sl d v,h⟩ (F ++ [footT st.sl st.hp h o (hdT ts)])
  | none=>none
theorem runF_nil (all:List Oper) (ts:List (Option Bool)) (st:St) (F:List Foot):runF E call all [] ts st F = some (st,F):=rfl
theorem runF_none (all os:List Oper) (d:Option Tmp) (op:Op) (t:TypeId) (pos:String) (aft:Array Edge) (ts:List (Option Bool)) (st:St) (F:List Foot) :
    runF E call all (⟨d,op,t,pos,aft,none⟩ :: os) ts st F = stepKF E call all os d ts st ⟨d,op,t,pos,aft,none⟩ F (stepA E call st.sl st.hp ⟨d,op,t,pos,aft,none⟩):=rfl
theorem runF_some (all os:List Oper) (d:Option Tmp) (op:Op) (t:TypeId) (pos:String) (aft:Array Edge) (g:Nat×Bool) (ts:List (Option Bool)) (st:St) (F:List Foot) :
    runF E call all (⟨d,op,t,pos,aft,some g⟩ :: os) ts st F = runKF E call all os ⟨d,op,t,pos,aft,some g⟩ ts st F (wantA all st.sl ⟨d,op,t,pos,aft,some g⟩):=by
  simp only [runF,runKF]
theorem runKF_t (all os:List Oper) (o:Oper) (ts:List (Option Bool)) (st:St) (F:List Foot):runKF E call all os o ts st F (some true) = stepKF E call all os o.dst ts st o F (stepA E call st.sl st.hp o):=rfl
theorem runKF_f (all os:List Oper) (o:Oper) (ts:List (Option Bool)) (st:St) (F:List Foot):runKF E call all os o ts st F (some false) = runF E call all os (tlT ts) ⟨putO st.sl o.dst (.tup []),st.hp⟩ (F ++ [footT st.sl st.hp st.hp o (hdT ts)]):=rfl
theorem runKF_x (all os:List Oper) (o:Oper) (ts:List (Option Bool)) (st:St) (F:List Foot):runKF E call all os o ts st F none = none:=rfl
theorem stepKF_s (all os:List Oper) (d:Option Nat) (ts:List (Option Bool)) (st:St) (o:Oper) (F:List Foot) (v:AV) (h:Heap) :
    stepKF E call all os d ts st o F (some (v,h)) = runF E call all os (tlT ts) ⟨putO st.sl d v,h⟩ (F ++ [footT st.sl st.hp h o (hdT ts)]):=rfl
theorem stepKF_x (all os:List Oper) (d:Option Nat) (ts:List (Option Bool)) (st:St) (o:Oper) (F:List Foot):stepKF E call all os d ts st o F none = none:=rfl
theorem tlT_c (t:Option Bool) (l:List (Option Bool)):tlT (t :: l) = l:=rfl
theorem tlT_n:tlT [] = []:=rfl
theorem hdT_c (t:Option Bool) (l:List (Option Bool)):hdT (t :: l) = t:=rfl
theorem hdT_n:hdT [] = none:=rfl
theorem footT_n (s:Nat→AV) (hp hp':Heap) (o:Oper):footT s hp hp' o none = foot0 []:=rfl
theorem pair0 (w:Foot):pairOk (foot0 []) w = true:=rfl
theorem pair1 (k n:Nat) (g:Nat→Bool):pairOk (foot0 [k]) (none,n,g) = (decide (k < n) && !(g k)):=by simp [pairOk,foot0]
theorem foot_t (s:Nat→AV) (hp hp':Heap) (o:Oper):footT s hp hp' o (some true) = foot0 (readsO s o):=rfl
theorem foot_f (s:Nat→AV) (hp hp':Heap) (o:Oper):footT s hp hp' o (some false) = (none,hp.length,chgA s hp hp' o):=rfl
theorem eqB_refl (a:ByteArray):(a.data.toList == a.data.toList) = true:=by simp
end
end Go.Ab
end
section
set_option linter.unusedVariables false
set_option linter.unusedSimpArgs false
namespace Go.Ab
open Go
theorem frz_cells (cs:List C):Ob.frz (.cells cs) = .cells cs:=rfl
theorem frz_row (n sz:Nat):Ob.frz (.row n sz) = .row n sz:=rfl
theorem frz_siter (s:ByteArray) (p:Nat):Ob.frz (.siter s p) = .siter s p:=rfl
theorem frz_gone:Ob.frz .gone = .gone:=rfl
theorem frz_amap (kvs:List (Value×V1)):Ob.frz (.amap kvs) = .amap (kvs.map fun e=>(e.1,e.2.ro)):=rfl
theorem frzH_z (o:Ob) (r:Heap):frzH 0 (o :: r) = o.frz :: frzH 0 r:=rfl
theorem frzH_s (m:Nat) (o:Ob) (r:Heap):frzH (m + 1) (o :: r) = o :: frzH m r:=rfl
theorem frzH_n (m:Nat):frzH m [] = []:=by cases m <;> rfl
def enS:Bs→List D:=fun x=>[.sc (.string (S x))]
theorem enS_e (x:Bs):enS x = [.sc (.string (S x))]:=rfl
theorem enS_l (x:Bs):(enS x).length = 1:=rfl
theorem enS_a (l:List Bs):((enL enS l).all fun e=>e.length == 1) = true:=enL_all enS 1 (fun _=>rfl) l
def enSS:Bs×Bs→List D:=fun x=>[.sc (.string (S x.1)),.sc (.string (S x.2))]
theorem enSS_e (x:Bs×Bs):enSS x = [.sc (.string (S x.1)),.sc (.string (S x.2))]:=rfl
theorem enSS_l (x:Bs×Bs):(enSS x).length = 2:=rfl
theorem enSS_a (l:List (Bs×Bs)):((enL enSS l).all fun e=>e.length == 2) = true:=enL_all enSS 2 (fun _=>rfl) l
def enM (kvs:List (Bs×List Bs)):List (Value×V1):=kvs.map fun p=>(.string (S p.1),.c (.d (.lst false (enL enS p.2))))
def hasM (k:Bs) (kvs:List (Bs×List Bs)):Bool:=kvs.any fun p=>p.1 == k
def valM (k:Bs) (kvs:List (Bs×List Bs)):List Bs:=((kvs.find? fun p=>p.1 == k).map (·.2)).getD []
def getM (k:Bs) (kvs:List (Bs×List Bs)):Option V1:=(kvs.find? fun p=>p.1 == k).map fun p=>.c (.d (.lst false (enL enS p.2)))
theorem any_find {α:Type} (q:α→Bool) (l:List α):(l.any q) = (l.find? q).isSome:=by
  induction l with
  | nil=>rfl
  | cons a l ih=>simp only [List.any_cons,List.find?_cons]; cases q a <;> simp [ih]
theorem enM_find (k:Bs) (kvs:List (Bs×List Bs)):findK (.string (S k)) (enM kvs) = some (getM k kvs):=by
  induction kvs with
  | nil=>rfl
  | cons p kvs ih =>
    have e:enM (p :: kvs) = (.string (S p.1),.c (.d (.lst false (enL enS p.2)))) :: enM kvs:=rfl
    rw [e]
    simp only [findK,sameK,S_beq]
    by_cases h:p.1 = k
    · subst h; simp [getM]
    · have h1:(k == p.1) = false:=beq_eq_false_iff_ne.2 (fun e=>h e.symm)
      have h2:(p.1 == k) = false:=beq_eq_false_iff_ne.2 h
      rw [h1]
      simp only [ih,getM,List.find?_cons,h2]
theorem getM_d (k:Bs) (kvs:List (Bs×List Bs)):(getM k kvs).getD (.c (.d (.lst true []))) = .c (.d (.lst (!(hasM k kvs)) (enL enS (valM k kvs)))):=by
  unfold getM hasM valM
  rw [any_find]
  cases kvs.find? fun p=>p.1 == k <;> rfl
theorem getM_s (k:Bs) (kvs:List (Bs×List Bs)):(getM k kvs).isSome = hasM k kvs:=by
  unfold getM hasM
  rw [Option.isSome_map,any_find]
theorem enM_refs (kvs:List (Bs×List Bs)):((enM kvs).flatMap fun e=>e.2.refs) = []:=by
  induction kvs with
  | nil=>rfl
  | cons p kvs ih=>simpa [enM,V1.refs,V1.cells,C.refs] using ih
theorem enM_ren (τ:Nat→Option Nat) (kvs:List (Bs×List Bs)):((enM kvs).mapM fun (e:Value×V1)=>(e.2.ren τ).map fun x=>(e.1,x)) = some (enM kvs):=by
  induction kvs with
  | nil=>rfl
  | cons p kvs ih =>
    have e:enM (p :: kvs) = (.string (S p.1),.c (.d (.lst false (enL enS p.2)))) :: enM kvs:=rfl
    rw [e,List.mapM_cons,ih]
    rfl
theorem enM_ro (kvs:List (Bs×List Bs)):((enM kvs).map fun e=>(e.1,e.2.ro)) = enM kvs:=by
  induction kvs with
  | nil=>rfl
  | cons p kvs ih=>simp only [enM,List.map_cons] at ih ⊢; rw [ih]; rfl
theorem ev_quo0 (P:Program) (t:TypeId) (x y:Operand) (k:IntKind) (a b:Int):evalS P (do eqGuard .quo t x y (.int k a) (.int k b); binOp .quo t (.int k a) (.int k b)) = if (b == 0) = false then some (.int k (k.wrap (a.tdiv b))) else none:=by
  by_cases h:b = 0
  · subst h; cases k <;> simp [eqGuard,binOp,Op.intDiv] <;> rfl
  · rw [if_pos (by simpa using h)]; exact ev_quo P t x y k a b h
def min2 (a b:Int):Int:=if b < a then b else a
def max2 (a b:Int):Int:=if a < b then b else a
theorem ev_min (P:Program) (A:Array TypeId) (t:TypeId) (k:IntKind) (a b:Int):evalS P (Builtin.min_ A t (#[.int k a,.int k b])) = some (.int k (min2 a b)):=by
  unfold min2
  have:Builtin.min_ A t (#[.int k a,.int k b]) = pure (.int k (if b < a then b else a)):=by
    simp only [Builtin.min_,List.foldlM_cons,List.foldlM_nil,Builtin.min2]; rfl
  rw [this]; rfl
theorem ev_max (P:Program) (A:Array TypeId) (t:TypeId) (k:IntKind) (a b:Int):evalS P (Builtin.max_ A t (#[.int k a,.int k b])) = some (.int k (max2 a b)):=by
  unfold max2
  have:Builtin.max_ A t (#[.int k a,.int k b]) = pure (.int k (if a < b then b else a)):=by
    simp only [Builtin.max_,List.foldlM_cons,List.foldlM_nil,Builtin.max2]; rfl
  rw [this]; rfl
theorem enM_refs2 (kvs:List (Bs×List Bs)):((enM kvs).flatMap fun e=>e.2.cells.flatMap C.refs) = []:=enM_refs kvs
theorem eqL_refl {α:Type} (f:α→α→Bool):∀ l:List α,(∀ a,a ∈ l→f a a = true)→eqL f l l = true
  | [],_=>rfl
  | a :: l,h=>by
    simp only [eqL,h a (by simp),Bool.true_and]
    exact eqL_refl f l fun b hb=>h b (by simp [hb])
theorem eqOb_cells (a b:List C):eqOb (.cells a) (.cells b) = eqL eqC a b:=rfl
theorem eqOb_row (n s n' s':Nat):eqOb (.row n s) (.row n' s') = (n == n' && s == s'):=rfl
theorem eqOb_siter (s s':ByteArray) (p p':Nat):eqOb (.siter s p) (.siter s' p') = (s.data.toList == s'.data.toList && p == p'):=rfl
theorem eqOb_amapN:eqOb (.amap []) (.amap []) = true:=rfl
theorem eqOb_amapC (x y:Value×V1) (a b:List (Value×V1)):eqOb (.amap (x :: a)) (.amap (y :: b)) = ((eqV x.1 y.1 && eqV1 x.2 y.2) && eqOb (.amap a) (.amap b)):=rfl
theorem eqOb_sm (kvs:List (Bs×List Bs)):eqOb (.amap (enM kvs)) (.amap (enM kvs)) = true:=by
  refine eqL_refl _ _ fun e he=>?_
  simp only [enM,List.mem_map] at he
  obtain ⟨p,_,rfl⟩:=he
  have h:eqL (eqL (eqD 8)) (enL enS p.2) (enL enS p.2) = true:=by
    refine eqL_refl _ _ fun x hx=>?_
    simp only [enL,List.mem_map] at hx
    obtain ⟨s,_,rfl⟩:=hx
    simp [enS,eqL,eqD,eqV]
  simp [eqV,eqV1,eqC,eqD,h]
section
variable (E:Env) (fn:FuncId) (m:Nat) (call:Caller) (it:It)
theorem regD_none:regD none = none:=rfl
theorem seqD_none (b:Code):seqD E fn m call it b none = none:=rfl
theorem blockD_none (i:Nat):blockD i none = none:=rfl
theorem loopK_none (L:List (Nat×Co)):loopK m L none = none:=rfl
theorem bodyD_none (res:List ResultVar) (hand:Bool):bodyD E res m hand none = none:=rfl
theorem stepE_none {γ:Type} (K:Option (Ex×St)→Option γ):stepE K none = none:=rfl
end
section
variable (E:Env) (fn:FuncId) (m:Nat) (call:Caller) (it:It)
def scopeK (L:List (Nat×Co)) (body:Code) (r:Option (Ex×St)):Option (X ⊕ (Ex×St)):=match r with
  | some (.goto l,st')=>if hasLabel body l then (canon m L st').map fun y=>.inl (some l,y.1,y.2) else some (.inr (.goto l,st'))
  | some r=>some (.inr r)
  | none=>none
def scopeF (body:Code) (L:List (Nat×Co)):X→Option (X ⊕ (Ex×St)):=fun x=>scopeK m L body (den E fn m call it body x.1 ⟨slots L x.2.1,x.2.2⟩)
theorem scopeF_eq (body:Code) (L:List (Nat×Co)) (f:Option Nat) (vs:List AV) (h:Heap):scopeF E fn m call it body L (f,vs,h) = scopeK m L body (den E fn m call it body f ⟨slots L vs,h⟩):=rfl
theorem scopeK_n (L:List (Nat×Co)) (b:Code) (st:St):scopeK m L b (some (.normal,st)) = some (.inr (.normal,st)):=rfl
theorem scopeK_r (L:List (Nat×Co)) (b:Code) (st:St):scopeK m L b (some (.ret,st)) = some (.inr (.ret,st)):=rfl
theorem scopeK_e (L:List (Nat×Co)) (b:Code) (id:Nat) (st:St):scopeK m L b (some (.exit id,st)) = some (.inr (.exit id,st)):=rfl
theorem scopeK_none (L:List (Nat×Co)) (b:Code):scopeK m L b none = none:=rfl
theorem scopeK_g {b:Code} {l:Nat} (h:hasLabel b l = true) (m:Nat) (L:List (Nat×Co)) (st:St):scopeK m L b (some (.goto l,st)) = (canon m L st).map fun y=>.inl (some l,y.1,y.2):=by
  simp only [scopeK,h,if_true]
theorem den_label_l (l:Nat) (st:St):den E fn m call it (.label l) (some l) st = some (.normal,st):=by simp [den]
end
theorem den_seq_l1 {a b:Code} {l:Nat} (h:hasLabel a l = true) (E:Env) (fn:FuncId) (m:Nat) (call:Caller) (it:It) (st:St):den E fn m call it (.seq a b) (some l) st = seqD E fn m call it b (den E fn m call it a (some l) st):=by
  simp only [den,h,if_true]; rfl
theorem den_seq_l0 {a b:Code} {l:Nat} (h:hasLabel a l = false) (E:Env) (fn:FuncId) (m:Nat) (call:Caller) (it:It) (st:St):den E fn m call it (.seq a b) (some l) st = den E fn m call it b (some l) st:=by
  simp [den,h]
def ciI (n:Int):C:=.d (.sc (.int .i64 n))
def enI (l:List Int):List C:=l.map ciI
theorem enI_all (l:List Int):(enI l).all C.isD = true:=by simp [enI,ciI,C.isD]
theorem enI_refs (l:List Int):(enI l).flatMap C.refs = []:=by
  induction l with
  | nil=>rfl
  | cons n l ih=>simp only [enI,List.map_cons,List.flatMap_cons] at ih ⊢; rw [ih]; rfl
def enN:Int→List D:=fun x=>[.sc (.int .i64 x)]
theorem enN_e (x:Int):enN x = [.sc (.int .i64 x)]:=rfl
theorem enN_l (x:Int):(enN x).length = 1:=rfl
theorem enN_a (l:List Int):((enL enN l).all fun e=>e.length == 1) = true:=enL_all enN 1 (fun _=>rfl) l
theorem ofV_mapn:ofV (.map none) = some (.c (.d (.sc (.map none)))):=rfl
theorem ofV_ptrn:ofV (.pointer none) = some (.c (.d (.sc (.pointer none)))):=rfl
theorem ofV_funn:ofV .nilFunc = some (.c (.d (.sc .nilFunc))):=rfl
theorem ofV_ifan:ofV .nilIface = some (.c (.d (.sc .nilIface))):=rfl
theorem eqE_of {α:Type} {f:α→List D} (h:∀ x,eqL (eqD 8) (f x) (f x) = true) (l:List α):eqL (eqL (eqD 8)) (enL f l) (enL f l) = true:=by
  refine eqL_refl _ _ fun e he=>?_
  simp only [enL,List.mem_map] at he
  obtain ⟨x,_,rfl⟩:=he
  exact h x
theorem eqE_S (l:List Bs):eqL (eqL (eqD 8)) (enL enS l) (enL enS l) = true:=eqE_of (fun x=>by simp [enS,eqL,eqD,eqV]) l
theorem eqE_SS (l:List (Bs×Bs)):eqL (eqL (eqD 8)) (enL enSS l) (enL enSS l) = true:=eqE_of (fun x=>by simp [enSS,eqL,eqD,eqV]) l
theorem eqE_N (l:List Int):eqL (eqL (eqD 8)) (enL enN l) (enL enN l) = true:=eqE_of (fun x=>by simp [enN,eqL,eqD,eqV]) l
theorem eqE_B (l:List UInt8):eqL (eqL (eqD 8)) (enL enB l) (enL enB l) = true:=eqE_of (fun x=>by simp [enB,eqL,eqD,eqV]) l
end Go.Ab
end
section
set_option linter.unusedVariables false
set_option linter.unusedSimpArgs false
namespace Go.Ab
open Go
abbrev RG (E:Env) (f:Nat) (c:Code):Prop:=∀ (m:Nat) (st:St),den E f m (callW E) itW c none st = regD (runOps E (callW E) (opsOf c) (opsOf c) st)
theorem rgN {E:Env} {f:Nat} {c:Code} (h:isRg c = true):RG E f c:=fun _ _=>den_rg h
theorem rgD {E:Env} {f:Nat} {c:Code} (h:(isDr c && (drawOk E (opsOf c) && (floats E (opsOf c)).isEmpty)) = true):RG E f c:=fun _ _=>den_dr2 h
end Go.Ab
end
section
set_option linter.all false
set_option linter.unusedVariables false
set_option linter.unusedSimpArgs false
namespace Go.Ab
open Go
def setB0:=And.intro @Go.Ab.both_s (And.intro @Go.Ab.both_l (And.intro @Go.Ab.both_r (And.intro @Go.Ab.wantA.eq_1 (And.intro @Go.Ab.stepA.eq_1 (And.intro @Go.Ab.dop.eq_1 (And.intro @Go.Ab.ev.eq_1 (And.intro @Go.Ab.ev.eq_2 (And.intro @Go.Ab.ev.eq_3 (And.intro @Go.Ab.ev.eq_4 (And.intro @Go.Ab.ev1.eq_1 (And.intro @Go.Ab.evC.eq_1 (And.intro @Go.Ab.evI.eq_1 (And.intro @Go.Ab.putO.eq_1 (And.intro @Go.Ab.putO.eq_2 (And.intro @Go.Ab.builtinA.eq_1 (And.intro @Go.Ab.lenA.eq_1 (And.intro @Go.Ab.lenA.eq_2 (And.intro @Go.Ab.lenA.eq_3 (And.intro @Go.Ab.lenA.eq_4 (And.intro @Go.Ab.lenA.eq_5 (And.intro @Go.Ab.lenA.eq_6 (And.intro @Go.Ab.lenA.eq_7 (And.intro @Go.Ab.lenA.eq_8 (And.intro @Go.Ab.canon.eq_1 (And.intro @Go.Ab.coerceAll.eq_1 (And.intro @Go.Ab.coerceAll.eq_2 (And.intro @Go.Ab.coerce.eq_1 (And.intro @Go.Ab.coerce.eq_2 (And.intro @Go.Ab.coerceC.eq_1 (And.intro @Go.Ab.coerceC.eq_2 (And.intro @Go.Ab.coerceC.eq_3 (And.intro @Go.Ab.coerceC.eq_4 (And.intro @Go.Ab.AV.freeze.eq_1 (And.intro @Go.Ab.AV.freeze.eq_2 (And.intro @Go.Ab.AV.freeze.eq_3 (And.intro @Go.Ab.V1.freeze.eq_1 (And.intro @Go.Ab.V1.freeze.eq_2 (And.intro @Go.Ab.C.freeze.eq_1 (@Go.Ab.C.freeze.eq_2)))))))))))))))))))))))))))))))))))))))
def setB1:=And.intro @Go.Ab.freezeAll.eq_1 (And.intro @Go.Ab.freezeAll.eq_2 (And.intro @Go.Ab.freezeVs.eq_1 (And.intro @Go.Ab.freezeVs.eq_2 (And.intro @Go.Ab.AV.refs.eq_1 (And.intro @Go.Ab.AV.refs.eq_2 (And.intro @Go.Ab.AV.refs.eq_3 (And.intro @Go.Ab.V1.refs.eq_1 (And.intro @Go.Ab.C.refs.eq_1 (And.intro @Go.Ab.C.refs.eq_2 (And.intro @Go.Ab.C.refs.eq_3 (And.intro @Go.Ab.C.refs.eq_4 (And.intro @Go.Ab.C.refs.eq_5 (And.intro @Go.Ab.C.refs.eq_6 (And.intro @Go.Ab.C.refs.eq_7 (And.intro @Go.Ab.V1.cells.eq_1 (And.intro @Go.Ab.V1.cells.eq_2 (And.intro @Go.Ab.close.eq_1 (And.intro @Go.Ab.close.eq_2 (And.intro @Go.Ab.close.eq_3 (And.intro @Go.Ab.fuelR.eq_1 (And.intro @Go.Ab.AV.ren.eq_1 (And.intro @Go.Ab.AV.ren.eq_2 (And.intro @Go.Ab.AV.ren.eq_3 (And.intro @Go.Ab.V1.ren.eq_1 (And.intro @Go.Ab.V1.ren.eq_2 (And.intro @Go.Ab.C.ren.eq_1 (And.intro @Go.Ab.C.ren.eq_2 (And.intro @Go.Ab.C.ren.eq_3 (And.intro @Go.Ab.C.ren.eq_4 (And.intro @Go.Ab.C.ren.eq_5 (And.intro @Go.Ab.C.ren.eq_6 (And.intro @Go.Ab.C.ren.eq_7 (And.intro @Go.Ab.C.ren.eq_8 (And.intro @Go.Ab.C.ren.eq_9 (And.intro @Go.Ab.C.ren.eq_10 (And.intro @Go.Ab.C.ren.eq_11 (And.intro @Go.Ab.Ob.ren.eq_1 (And.intro @Go.Ab.Ob.ren.eq_2 (@Go.Ab.Ob.ren.eq_3)))))))))))))))))))))))))))))))))))))))
def setB2:=And.intro @Go.Ab.Ob.ren.eq_4 (And.intro @Go.Ab.Ob.ren.eq_5 (And.intro @Go.Ab.Ob.refs.eq_1 (And.intro @Go.Ab.Ob.refs.eq_2 (And.intro @Go.Ab.Ob.refs.eq_3 (And.intro @Go.Ab.restrict.eq_1 (And.intro @Go.Ab.resultsL.eq_1 (And.intro @Go.Ab.resultA.eq_1 (And.intro @Go.Ab.resultA.eq_2 (And.intro @Go.Ab.finish.eq_1 (And.intro @Go.Ab.finishN.eq_1 (And.intro @Go.Ab.frzH_z (And.intro @Go.Ab.frzH_s (And.intro @Go.Ab.frzH_n (And.intro @Go.Ab.frz_cells (And.intro @Go.Ab.frz_row (And.intro @Go.Ab.frz_siter (And.intro @Go.Ab.frz_gone (And.intro @Go.Ab.frz_amap (And.intro @Go.Ab.enM_find (And.intro @Go.Ab.getM_d (And.intro @Go.Ab.getM_s (And.intro @Go.Ab.enM_refs (And.intro @Go.Ab.enM_refs2 (And.intro @Go.Ab.ev_min (And.intro @Go.Ab.ev_max (And.intro @Go.Ab.scopeK_n (And.intro @Go.Ab.scopeK_r (And.intro @Go.Ab.scopeK_e (And.intro @Go.Ab.scopeK_none (And.intro @Go.Ab.den_label_l (And.intro @Go.Ab.enI_all (And.intro @Go.Ab.enI_refs (And.intro @Go.Ab.enN_e (And.intro @Go.Ab.enN_l (And.intro @Go.Ab.enN_a (And.intro @Go.Ab.seqD_g (And.intro @Go.Ab.blockD_g (And.intro @Go.Ab.loopK_g (@Go.Ab.enM_ren)))))))))))))))))))))))))))))))))))))))
def setB3:=And.intro @Go.Ab.enM_ro (And.intro @Go.Ab.enS_e (And.intro @Go.Ab.enS_l (And.intro @Go.Ab.enS_a (And.intro @Go.Ab.enSS_e (And.intro @Go.Ab.enSS_l (And.intro @Go.Ab.enSS_a (And.intro @Go.Ab.opCall.eq_1 (And.intro @Go.Ab.viaCall.eq_1 (And.intro @Go.Ab.roA.eq_1 (And.intro @Go.Ab.V1.ro.eq_1 (And.intro @Go.Ab.V1.ro.eq_2 (And.intro @Go.Ab.C.ro.eq_1 (And.intro @Go.Ab.C.ro.eq_2 (And.intro @Go.Ab.AV.toV.eq_1 (And.intro @Go.Ab.AV.toV.eq_2 (And.intro @Go.Ab.wr.eq_1 (And.intro @Go.Ab.wr.eq_2 (And.intro @Go.Ab.wr.eq_3 (And.intro @Go.Ab.wr.eq_4 (And.intro @Go.Ab.cutSlice.eq_1 (And.intro @Go.Ab.cutSlice.eq_2 (And.intro @Go.Ab.cutSlice.eq_3 (And.intro @Go.Ab.evB.eq_1 (And.intro @Go.Ab.evB.eq_2 (And.intro @Go.Ab.places.eq_1 (And.intro @Go.Ab.evParts.eq_1 (And.intro @Go.Ab.fillC.eq_1 (And.intro @Go.Ab.fillC.eq_2 (And.intro @Go.Ab.srcOf.eq_1 (And.intro @Go.Ab.srcOf.eq_2 (And.intro @Go.Ab.srcOf.eq_3 (And.intro @Go.Ab.listOf.eq_1 (And.intro @Go.Ab.listOf.eq_2 (And.intro @Go.Ab.C.list.eq_1 (And.intro @Go.Ab.C.list.eq_2 (And.intro @Go.Ab.C.list.eq_3 (And.intro @Go.Ab.C.toD.eq_1 (And.intro @Go.Ab.C.toD.eq_2 (@Go.Ab.C.toD.eq_3)))))))))))))))))))))))))))))))))))))))
def setB4:=And.intro @Go.Ab.slcCells.eq_1 (And.intro @Go.Ab.mapPut.eq_1 (And.intro @Go.Ab.keyOk.eq_1 (And.intro @Go.Ab.keyOk.eq_2 (And.intro @Go.Ab.keyOk.eq_3 (And.intro @Go.Ab.keyOk.eq_4 (And.intro @Go.Ab.findK.eq_1 (And.intro @Go.Ab.findK.eq_2 (And.intro @Go.Ab.putK.eq_1 (And.intro @Go.Ab.putK.eq_2 (And.intro @Go.Ab.sameK.eq_1 (And.intro @Go.Ab.sameK.eq_2 (And.intro @Go.Ab.sameK.eq_3 (And.intro @Go.Ab.sameK.eq_4 (And.intro @Go.Ab.globOf.eq_1 (And.intro @Go.Ab.globOf.eq_2 (And.intro @Go.Ab.globOf.eq_3 (And.intro @Go.Ab.globOf.eq_4 (And.intro @Go.Ab.globOf.eq_5 (And.intro @Go.Ab.nilTest.eq_1 (And.intro @Go.Ab.nilTest.eq_2 (And.intro @Go.Ab.nilTest.eq_3 (And.intro @Go.Ab.nilTest.eq_4 (And.intro @Go.Ab.nilTest.eq_5 (And.intro @Go.Ab.nilTest.eq_6 (And.intro @Go.Ab.nilTest.eq_7 (And.intro @Go.Ab.nilTest.eq_8 (And.intro @Go.Ab.nilTest.eq_9 (And.intro @Bool.or_false (And.intro @Bool.false_or (And.intro @ne_eq.{1} (And.intro @Nat.beq.eq_1 (And.intro @Nat.beq.eq_2 (And.intro @Nat.beq.eq_3 (And.intro @Nat.beq.eq_4 (And.intro @Go.Ab.ev_or8 (And.intro @Go.Ab.ev_and8 (And.intro @Go.Ab.ev_xor8 (And.intro @Go.Ab.closeM.eq_1 (@Go.Ab.enC_all)))))))))))))))))))))))))))))))))))))))
def setB5:=And.intro @Go.Ab.renCs.eq_1 (And.intro @Go.Ab.plainCs.eq_1 (And.intro @Go.Ab.C.isD.eq_1 (And.intro @Go.Ab.C.isD.eq_2 (And.intro @List.all_cons.{0} (And.intro @List.isEmpty_cons.{0} (And.intro @Go.Ab.ofV_nil (And.intro @Go.Ab.ofV_mapn (And.intro @Go.Ab.ofV_ptrn (And.intro @Go.Ab.ofV_funn (And.intro @Go.Ab.ofV_ifan (And.intro @Go.Ab.plainC_f (And.intro @Go.Ab.plainC_t (And.intro @Go.Ab.AV.ro.eq_1 (And.intro @Go.Ab.AV.ro.eq_2 (@Go.Ab.AV.ro.eq_3)))))))))))))))
def setB:=And.intro setB0 (And.intro setB1 (And.intro setB2 (And.intro setB3 (And.intro setB4 (setB5)))))
end Go.Ab
end
