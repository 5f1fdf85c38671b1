import PyProof.Rows.All
import Wide.All
import OpenK.AllK
import Wide.FinOn
import HandS.Exc
import HandS.ExcInit
import HandS.ExcField
import KE.KSuper
import KE.KExcSuper
import HandS.ForMost
import HandS.Flow
import HandS.TupAny
import HandS.TupMul
import HandS.Deep
import HandS.WordsExc
import HandS.CallSlots
import HandS.Style
import HandS.SortRule
import PyProof.Rows.SortShellAny
import PyProof.Rows.SortKeyStr
import HandS.IsInst
import HandS.Defaults
import HandS.Ends
import HandS.More
import HandS.Words
import HandS.Head0
import HandS.Head1
import HandS.Head2
import HandS.HeadEnd
import HandS.HeadHook1
import HandS.HeadHook2
import HandS.HeadHook3
import HandS.HeadHook4
import PySem.Challenge.RW_schemabridge_k09_read_any_octets
set_option Elab.async false
set_option autoImplicit false
set_option linter.all false
set_option maxRecDepth 100000
set_option maxHeartbeats 8000000
/-! E0: an own error class below BridgeError with an __init__ of two fields: how it is made. -/
namespace PySem
namespace EXI
open PySem.W PySem.Calls PyProof.Rows PySem.HandSPX
/-- where things stand in the text of such an __init__ -/
structure At where
  (s0 s1 s2 p0 p1 p2 p3 p4 p5 : Pos)
  (kk : Nat)
  (a1 a2 a3 a4 b1 b2 b3 b4 : Pos)
def iA (q : At) (n1 n2 : Str) : Arguments := { posonlyargs := [], args := [{ arg := "self", annotation := none, pos := q.s0 }, { arg := n1, annotation := none, pos := q.s1 }, { arg := n2, annotation := none, pos := q.s2 }], vararg := none, kwonlyargs := [], kw_defaults := [], kwarg := none, defaults := [] }
def iB (q : At) (msg n1 n2 : Str) : List Stmt :=
  [.Expr (.Call (.Attribute (.Call (.Name "super" q.p0) [] [] q.p1) "__init__" q.p2) [.Constant (.str msg) q.kk q.p3] [] q.p4) q.p5,
   .Assign [.Attribute (.Name "self" q.a1) n1 q.a2] (.Name n1 q.a3) q.a4,
   .Assign [.Attribute (.Name "self" q.b1) n2 q.b2] (.Name n2 q.b3) q.b4]
/-- its scope -/
structure Sco (sc : Scope) (n1 n2 : Str) : Prop where
  kind : sc.kind = .function
  co : sc.isCoroutine = false
  ge : sc.isGenerator = false
  su : sc.names.lookup ("super" : Str) = some .globalImplicit
  cl : sc.names.lookup ("__class__" : Str) = some .free
  se : sc.names.lookup ("self" : Str) = some .local
  l1 : sc.names.lookup n1 = some .local
  l2 : sc.names.lookup n2 = some .local
  nc : ∀ y ∈ sc.names, y.2 ≠ .cell
/-- what the written part says of the class at C -/
structure Txt (K : Frag) (P : Program) (C fI cc cda : Addr) (q : At) (msg n1 n2 qual : Str) (sc : Scope) : Prop where
  cls : ∃ nm qn N bs bm sn sub ab col dd k0 k1 k2 k3 k5, K.lookup C = some (excClassObj nm qn C N bs bm true sn sub ab col dd k0 k1 k2 k3 k5 "ValueError.__new__") ∧ refsVE bm = true
  sa : findIn K (.ref C) "__setattr__" = some (some (.builtin "object.__setattr__"))
  no1 : findIn K (.ref C) n1 = some none
  no2 : findIn K (.ref C) n2 = some none
  iC : findIn K (.ref C) "__init__" = some (some (.ref fI))
  tC : typeIn K (.ref fI) = some (.type "function")
  kC : keepIn K (.ref C) = true
  exC : subIn K (.ref C) (.type "BaseException") = some true
  tyC : typeIn K (.ref C) = some (.type "type")
  fn : ∃ (oc doc pm ct : Value) (od an : Option Addr) (osl : Array (Option Value)), K.lookup fI = some ⟨oc, od, .func (fnX "__init__" qual (iA q n1 n2) (iB q msg n1 n2) sc [("__class__", cc)] .none .none doc pm an (.ref cda) ct), osl⟩
  cd : codeIn K (.ref cda) qual = true
  file : ∃ (oc : Value) (od : Option Addr) (vs : Array Value) (osl : Array (Option Value)) (f : Str) (tf : Tok), K.lookup cda = some ⟨oc, od, .fields vs, osl⟩ ∧ vs[2]? = some (.str f tf) ∧ ((P.main.file : Str) == f) = true
  top : (P.main.scope.names.lookup ("super" : Str)).isSome = false
  cell : ∃ (oc : Value) (od : Option Addr) (osl : Array (Option Value)), K.lookup cc = some ⟨oc, od, .cell (some (.ref C)), osl⟩
  sco : Sco sc n1 n2
  dj : ([("self" : Str), n1, n2]).Nodup
  db : (n1 == ("__debug__" : Str)) = false ∧ (n2 == ("__debug__" : Str)) = false
  op : nsIn K cStatics "thirdparty.any" = some none
  si : ks_superIn K C C "__init__" = some (some (.builtin "ValueError.__init__"))
  sv : subIn K (.ref C) (.type "ValueError") = some true
  sC : mroIn K C (.ref C) = some true
  xi : excInitIn K C veTail "ValueError.__new__" = true
  hd : hasDictIn K C = true
  pos : (q.p2.endLine == q.p4.line) = true
/-- what __init__ leaves of a fresh exception at x -/
structure InitEnd (h h' : Heap) (x C dx t1 : Addr) (n1 n2 : Str) (u1 u2 : Value) : Prop where
  keep : ∀ b o, b ≠ x → h.get? b = some o → h'.get? b = some o
  obj : h'.get? x = some { cls := .ref C, dict := some dx, data := .fields #[.ref t1, .none, .none, .none, .bool false, .none] }
  dbig : h.objs.size ≤ dx
  dne : dx ≠ x
  ns : h'.Ns1 dx (fun y => if y = n2 then some u2 else if y = n1 then some u1 else none)
theorem bindsN {qual : Str} {q : At} {msg n1 n2 : Str} {sc : Scope} {cc : Addr} {doc pm cdv ct : Value} {an : Option Addr} {a u1 u2 : Value} (hn : ([("self" : Str), n1, n2]).Nodup) :
    bindArgs (fnX "__init__" qual (iA q n1 n2) (iB q msg n1 n2) sc [("__class__", cc)] .none .none doc pm an cdv ct) ⟨[a, u1, u2], []⟩ = pure [(("self" : Str), a), (n1, u1), (n2, u2)] := by
  have e : seqItems? Value.none = (pure none : Sem (Option (Array Value))) := rfl
  simp only [List.nodup_cons, List.mem_cons, List.not_mem_nil, or_false, not_or] at hn
  obtain ⟨⟨h1, h2⟩, h3, _⟩ := hn
  have e1 : (n1 == ("self" : Str)) = false := beq_eq_false_iff_ne.mpr (Ne.symm h1)
  have e2 : (n2 == ("self" : Str)) = false := beq_eq_false_iff_ne.mpr (Ne.symm h2)
  have e3 : (n2 == n1) = false := beq_eq_false_iff_ne.mpr (Ne.symm h3)
  unfold bindArgs
  simp [iA, e, List.lookup, e1, e2, e3, List.filterMap]
theorem calls {env : PySem.Env} {msg : Str} {q : At} (hp : (q.p2.endLine == q.p4.line) = true) :
    eval (.Call (.Attribute (.Call (.Name "super" q.p0) [] [] q.p1) "__init__" q.p2) [.Constant (.str msg) q.kk q.p3] [] q.p4) env = (do
      let ov ← attributeBase (.Call (.Name "super" q.p0) [] [] q.p1) "__init__" env (eval (.Call (.Name "super" q.p0) [] [] q.p1) env)
      standAt q.p2.atName
      let (f, first) ← holding [ov] (getMethod ov "__init__" (do return (← importBound (.Call (.Name "super" q.p0) [] [] q.p1) env).getD true))
      callWith q.p4 f first (backTo q.p4 (starEach [.Constant (.str msg) q.kk q.p3] env)) []) := by
  have hm : methodCallPos true (.Call (.Name "super" q.p0) [] [] q.p1) env q.p2 q.p4 = pure q.p4 := by
    unfold methodCallPos
    rw [hp]
    rfl
  show (do
      let ov ← attributeBase (.Call (.Name "super" q.p0) [] [] q.p1) "__init__" env (eval (.Call (.Name "super" q.p0) [] [] q.p1) env)
      standAt q.p2.atName
      methodCall (.Call (.Name "super" q.p0) [] [] q.p1) "__init__" q.p2 q.p4 env ov 1 (backTo q.p4 (starEach [.Constant (.str msg) q.kk q.p3] env)) []) = _
  unfold methodCall
  have hf : methodCallForm 1 (backTo q.p4 (starEach [.Constant (.str msg) q.kk q.p3] env)) [] = true := rfl
  rw [hf, hm]
  simp only [pure_bind]
  rfl
section
variable {prog : Program} {w : World} {A : Around} {E : Value → Shared → Prop} {R : Result → Shared → Prop} {s : Shared} {K : Frag} {C fI cc cda : Addr} {q : At} {msg n1 n2 qual : Str} {sc : Scope}
theorem callVE {h : Heap} {g : Array GenState} {d : Drawn} {tk : Nat} {os : OsState} {nm qn : Str} {N e u t0 : Addr} {bs bm : List Value} {sn : List Str} {sub : List Value} {ab : Bool} {col : Option Bool} {dd : Option Addr} {k0 k1 k2 k3 k5 : Option Value} {rest : List Value} {Q : Value → Shared → Prop}
    (hC : h.get? C = some (excClassObj nm qn C N bs bm true sn sub ab col dd k0 k1 k2 k3 k5 "ValueError.__new__")) (he : h.get? e = some (excO C t0)) (hu : h.get? u = some (kxs_mw "ValueError.__init__" e)) (hr : rest.length ≤ sizeLine)
    (hq : ∀ h' t1, (∀ b o, b ≠ e → h.get? b = some o → h'.get? b = some o) → h'.get? e = some (excO C t1) → Q .none ⟨h', g, d, tk, os⟩) :
    wpAny (model prog w) A (call (.ref u) rest) Q E ⟨h, g, d, tk, os⟩ := by
  have F := PySem.F.excBase_ValueError
  have hmw : (Value.type "method-wrapper" == Value.type "method" || Value.type "method-wrapper" == Value.type "builtin_function_or_method" || Value.type "method-wrapper" == Value.type "method-wrapper") = true := by decide
  refine wpAny_call (codeAny_of_tree (show wpAny _ A.in1 (callAny (.ref u) ⟨rest, []⟩) _ _ _ from ?_))
  simp only [callAny]
  refine wpAny_bind (wpAny_load hu ?_)
  simp only [kxs_mw, hmw, if_true]
  refine KFB.if_so (by decide) (wpAny_bind (check_bound_init F.toExcCallFacts hC he rfl (wpAny_bind (wpAny_pure (wpAny_pure ⟨plainId_quiet F.init.plain _, codeAny_builtin F.initEntry ?_⟩)))))
  rw [Around.under_plainId F.init.plain _]
  wp_walk
  refine hq _ h.objs.size (fun b o hb ho => ?_) ?_
  · exact (Heap.get?_update_other _ _ (Ne.symm hb)).trans (Heap.get?_push_of_some _ ho)
  · exact (Heap.get?_update_self _ (Heap.get?_push_of_some _ he) rfl).trans rfl
theorem init2 (T : Txt K prog C fI cc cda q msg n1 n2 qual sc) {mg mb : Str → Option Value} {x t0 : Addr} {u1 u2 : Value} (X : K.In s.heap) (hlim : s.heap.NoLimit) (hG : s.heap.Ns mainGlobals mg) (hmg : mg "super" = none) (hB : s.heap.Ns builtinsNs mb) (hmb : mb "super" = bootBuiltins "super")
    (hx : s.heap.get? x = some (excO C t0)) (hnx : K.lookup x = none) (hroom : A.depth < recursionLimit)
    (hq : ∀ h' tk dx t1, InitEnd s.heap h' x C dx t1 n1 n2 u1 u2 → R (.ok (.ret .none)) { s with heap := h', toks := tk }) :
    codeAny (model prog w) A (.call (.ref fI) ⟨[.ref x, u1, u2], []⟩) R s := by
  obtain ⟨kd, nms, ig, ic, mo⟩ := sc
  have hkd : kd = .function := T.sco.kind
  subst hkd
  obtain ⟨oc, doc, pm, ct, od, an, osl, ho⟩ := T.fn
  obtain ⟨occ, occd, occs, hcell⟩ := T.cell
  obtain ⟨fc, fd, vs, fsl, fl, tf, hcode, hvs, hfile⟩ := T.file
  obtain ⟨nm, qn, N, bs, bm, sn, sub, ab, col, dd, k0, k1, k2, k3, k5, hC, hbm⟩ := T.cls
  have hcl : clsIn K C = some { name := nm, bases := bs, mro := .ref C :: bm, ns := N, qualname := qn, hasDict := true, slotNames := sn, subclasses := sub, abstract := ab, collection := col, hasDel := false } := by unfold clsIn; rw [hC]
  have S := T.sco
  refine ks_codeAny_call_defAt (binds := [(("self" : Str), .ref x), (n1, u1), (n2, u2)]) hroom (X _ _ ho) rfl hlim (codeRec_of X T.cd) rfl (BindsTo.of_eq (bindsN T.dj)) S.nc ?hloc (fun h₁ hns hk => ?_) S.co S.ge S.kind
  case hloc =>
    intro y hy
    rcases List.mem_cons.mp hy with rfl | hy
    · exact S.se
    rcases List.mem_cons.mp hy with rfl | hy
    · exact S.l1
    rw [List.mem_singleton.mp hy]
    exact S.l2
  obtain ⟨hj1, hj2, hj3⟩ : ("self" : Str) ≠ n1 ∧ ("self" : Str) ≠ n2 ∧ n1 ≠ n2 := by
    have := T.dj
    simp only [List.nodup_cons, List.mem_cons, List.not_mem_nil, or_false, not_or] at this
    exact ⟨this.1.1, this.1.2, this.2.1⟩
  have X₁ : K.In h₁ := X.keeps hk
  have hx₁ := hk _ _ hx
  have hC₁ := X₁ _ _ hC
  have rlk : ∀ y, ([((("self" : Str)), Value.ref x), (n1, u1), (n2, u2)].reverse.lookup y) = if y = n2 then some u2 else if y = n1 then some u1 else if y = ("self" : Str) then some (.ref x) else none := fun y => by
    show List.lookup y [(n2, u2), (n1, u1), ((("self" : Str)), Value.ref x)] = _
    simp only [List.lookup]
    by_cases e2 : y = n2
    · simp [e2]
    · have : (y == n2) = false := beq_eq_false_iff_ne.mpr e2
      rw [this, if_neg e2]
      by_cases e1 : y = n1
      · simp [e1]
      · have : (y == n1) = false := beq_eq_false_iff_ne.mpr e1
        rw [this, if_neg e1]
        by_cases e0 : y = ("self" : Str)
        · simp [e0]
        · have : (y == ("self" : Str)) = false := beq_eq_false_iff_ne.mpr e0
          rw [this, if_neg e0]
  have mS : ([((("self" : Str)), Value.ref x), (n1, u1), (n2, u2)].reverse.lookup ("self" : Str)) = some (.ref x) := by rw [rlk, if_neg hj2, if_neg hj1, if_pos rfl]
  have m1 : ([((("self" : Str)), Value.ref x), (n1, u1), (n2, u2)].reverse.lookup n1) = some u1 := by rw [rlk, if_neg hj3, if_pos rfl]
  have m2 : ([((("self" : Str)), Value.ref x), (n1, u1), (n2, u2)].reverse.lookup n2) = some u2 := by rw [rlk, if_pos rfl]
  -- super().__init__(..)
  refine ks_wpAt_execs_cons (ks_wpAt_Expr_any (ks_wpAt_MethodCall (he := calls T.pos) (ks_wpAt_super_base S.su S.cl (by decide) rfl (X₁ _ _ ho) rfl rfl rfl (X₁ _ _ hcode) rfl hvs hfile T.top ?_)))
  refine ks_loadName_global S.kind S.su (loadGlobal_builtin (hG.keeps hk) hmg (hB.keeps hk) (hmb.trans PyProof.Rows.Boot.«super») ⟨rfl, ?_⟩)
  refine wpAny_loadName_free S.kind S.cl rfl ⟨_, X₁ _ _ hcell, rfl⟩ ?_
  refine wpAny_loadName_local S.kind S.se hns mS ?_
  refine ks_wpAny_isType_cls hC₁ rfl ⟨rfl, ?_⟩
  refine ks_wpAny_call_super hC₁ rfl hx₁ rfl (fun c e => by cases e) (looks_mroIn X₁ T.sC) (fun h₂ hso k₂ => ?_)
  have X₂ : K.In h₂ := X₁.keeps k₂
  have hx₂ := k₂ _ _ hx₁
  have hxC : x ≠ C := by
    rintro rfl
    rw [hnx] at hC
    cases hC
  have I₂ : PySem.W.InstAt h₂ x (excO C t0) C none := ⟨hx₂, rfl, rfl, trivial⟩
  have hsi := T.si
  unfold ks_superIn at hsi
  rw [hcl] at hsi
  refine kxs_getMethod kxs_ValueError (l₀ := .ref C :: bm) hso (looks_opaque X₂ T.op) ((looks_clsIn X₂ hcl).andThen .now) rfl X₂ hsi (I₂.type.andThen (looks_subIn X₂ T.sv)) hxC (by decide) ?_
  have hu : (h₂.push (kxs_mw "ValueError.__init__" x)).get? h₂.objs.size = some (kxs_mw "ValueError.__init__" x) := Heap.get?_push_at rfl rfl
  have k₃ : ∀ b o, h₂.get? b = some o → (h₂.push (kxs_mw "ValueError.__init__" x)).get? b = some o := fun b o e => Heap.get?_push_of_some _ e
  refine kxs_callWith (i := "ValueError.__init__") (x := x) rfl (evalArgs_plain (spliced_cons (Constant_str (k := q.kk) (pos := q.p3) (spliced_nil ⟨hu, ?_⟩))))
  refine callVE (k₃ _ _ (k₂ _ _ hC₁)) (k₃ _ _ hx₂) hu (by rw [sizeLine_eq]; exact (by decide : 1 ≤ 16777216)) fun h₄ t1 k₄ hx₄ => ?_
  -- self.n1 = n1
  have hL : s.heap.objs.size ≠ x := Nat.ne_of_gt (Heap.lt_size hx)
  have up : ∀ b o, b ≠ x → h₁.get? b = some o → h₄.get? b = some o := fun b o hb e => k₄ b o hb (k₃ b o (k₂ b o e))
  have hns₄ := hns.at fun o e => up _ o hL e
  have X₄ : K.In h₄ := fun a o e => up a o (fun z => by rw [z, hnx] at e; cases e) (X₁ a o e)
  have I₄ : PySem.W.InstAt h₄ x (excO C t1) C none := ⟨hx₄, rfl, rfl, trivial⟩
  have mro : refsVE (.ref C :: bm) = true := hbm
  refine ks_wpAt_execs_cons (wpAt_of_wpAny (plainObj_wpAny_Assign_Attribute ?_))
  refine wpAny_Name (wpAny_loadName_local S.kind S.l1 hns₄ m1 (wpAny_Name (wpAny_loadName_local S.kind S.se hns₄ mS ?_) (by decide))) T.db.1
  refine set_plain X₄ (ox := excO C t1) (od := none) I₄ T.sa ?_
  refine exc_osa X₄ hx₄ hcl mro rfl T.no1 (fun h₅ tk₅ dx k₅ dn dne hx₅ hn₅ => ?_)
  have up5 : ∀ b o, b ≠ x → h₁.get? b = some o → h₅.get? b = some o := fun b o hb e => k₅ b o hb (up b o hb e)
  have hns₅ := hns.at fun o e => up5 _ o hL e
  have X₅ : K.In h₅ := fun a o e => up5 a o (fun z => by rw [z, hnx] at e; cases e) (X₁ a o e)
  obtain ⟨od₅, esd, epd, hod, hdd, hcd5⟩ := hn₅.count (Within.cons n1 u1 Within.nil)
  have I₅ : PySem.W.InstAt h₅ x { cls := .ref C, dict := some dx, data := .fields #[.ref t1, .none, .none, .none, .bool false, .none] } C (some od₅) := ⟨hx₅, rfl, rfl, hod⟩
  refine ks_wpAt_execs_cons (wpAt_of_wpAny (plainObj_wpAny_Assign_Attribute ?_))
  refine wpAny_Name (wpAny_loadName_local S.kind S.l2 hns₅ m2 (wpAny_Name (wpAny_loadName_local S.kind S.se hns₅ mS ?_) (by decide))) T.db.2
  refine set_plain X₅ (od := some od₅) I₅ T.sa ?_
  refine OEX.osa_old X₅ hx₅ hn₅ (Within.cons n1 u1 Within.nil) (show 1 ≤ 1000 by decide) hcl mro rfl T.no2 (fun h₆ tk₆ k₆ hn₆ => ?_)
  have hdL : s.heap.objs.size < dx := by
    exact Nat.lt_of_lt_of_le (show s.heap.objs.size < h₄.objs.size from hns₄.lt) dn
  refine wpAt_of_wpAny (wpAny_execs_nil (hq h₆ tk₆ dx t1 ⟨fun b o hb e => ?_, ?_, Nat.le_of_lt hdL, dne, hn₆⟩))
  · exact k₆ b o (Nat.ne_of_lt (Nat.lt_trans (Heap.lt_size e) hdL)) (up5 b o hb (hk b o e))
  · exact k₆ _ _ (Ne.symm dne) hx₅
/-- a made exception -/
structure Made (h h' : Heap) (e C d : Addr) (n1 n2 : Str) (u1 u2 : Value) : Prop where
  keep : ∀ b o, h.get? b = some o → h'.get? b = some o
  new : h.objs.size ≤ e
  obj : ∃ oe vs, h'.get? e = some oe ∧ oe.cls = .ref C ∧ oe.dict = some d ∧ oe.data = .fields vs ∧ vs[1]? = some .none
  dbig : h.objs.size ≤ d
  dne : d ≠ e
  ns : h'.Ns1 d (fun y => if y = n2 then some u2 else if y = n1 then some u1 else none)
theorem made2 (T : Txt K prog C fI cc cda q msg n1 n2 qual sc) {mg mb : Str → Option Value} {u1 u2 : Value} (X : K.In s.heap) (hlim : s.heap.NoLimit) (hG : s.heap.Ns mainGlobals mg) (hmg : mg "super" = none) (hB : s.heap.Ns builtinsNs mb) (hmb : mb "super" = bootBuiltins "super")
    (hroom : A.depth + 1 < recursionLimit) (hq : ∀ h' tk e d, Made s.heap h' e C d n1 n2 u1 u2 → R (.ok (.ret (.ref e))) { s with heap := h', toks := tk }) :
    codeAny (model prog w) A (.call (.ref C) ⟨[u1, u2], []⟩) R s := by
  obtain ⟨nm, qn, N, bs, bm, sn, sub, ab, col, dd, k0, k1, k2, k3, k5, hC, hbm⟩ := T.cls
  obtain ⟨hp, g, dr, tk, os⟩ := s
  have k : ∀ b o, hp.get? b = some o → ((hp.push (kdv_tup [u1, u2])).push (excO C hp.objs.size)).get? b = some o := fun b o e => Heap.get?_push_of_some _ (Heap.get?_push_of_some _ e)
  have hget : ((hp.push (kdv_tup [u1, u2])).push (excO C hp.objs.size)).get? (hp.objs.size + 1) = some (excO C hp.objs.size) := by heap_get
  have hnx : K.lookup (hp.objs.size + 1) = none := by
    cases e : K.lookup (hp.objs.size + 1) with
    | none => rfl
    | some o => exact absurd (Nat.lt_of_succ_lt (Heap.lt_size (show hp.get? (hp.objs.size + 1) = some o from X _ _ e))) (Nat.lt_irrefl _)
  refine call_own PySem.F.excBase_ValueError (fun Y => refsVE_contains Y bm hbm) (X _ _ hC) (looks_findIn X T.iC) (fun self => bind_fn X self T.tC) (by rw [sizeLine_eq]; exact (by decide : 2 ≤ 16777216)) ?_
  refine init2 T (s := ⟨(hp.push (kdv_tup [u1, u2])).push (excO C hp.objs.size), g, dr, tk, os⟩) (X.keeps k) (hlim.keeps k) (hG.keeps k) hmg (hB.keeps k) hmb hget hnx (show A.depth + 1 < recursionLimit from hroom) fun h' tk' dx t1 z => ?_
  have old : ∀ b o, hp.get? b = some o → h'.get? b = some o := fun b o e => z.keep b o (Nat.ne_of_lt (Nat.lt_succ_of_lt (Heap.lt_size e))) (k b o e)
  have big : hp.objs.size + 1 + 1 ≤ dx := by
    have h := z.dbig
    first | exact h | (simp only [Heap.size_push] at h; exact h)
  exact ⟨rfl, hq h' tk' (hp.objs.size + 1) dx ⟨old, Nat.le_succ _, ⟨_, _, z.obj, rfl, rfl, rfl, rfl⟩, Nat.le_trans (Nat.le_trans (Nat.le_succ _) (Nat.le_succ _)) big, z.dne, z.ns⟩⟩
end
end EXI
end PySem

namespace L2
open PySem PySem.Spec PyProof.Rows
theorem relO_two {n1 n2 : Str} {v1 v2 : V} {u1 u2 : Value} (hn : n1 ≠ n2) (r1 : RelV v1 u1) (r2 : RelV v2 u2) (f : Str) : RelO (List.lookup f [(n1, v1), (n2, v2)]) (if f = n2 then some u2 else if f = n1 then some u1 else none) := by
  by_cases h1 : f = n1
  · subst h1
    rw [if_neg hn, if_pos rfl, show List.lookup f [(f, v1), (n2, v2)] = some v1 by simp [List.lookup]]
    exact r1
  · have q1 : (f == n1) = false := beq_eq_false_iff_ne.mpr h1
    by_cases h2 : f = n2
    · subst h2
      rw [if_pos rfl, show List.lookup f [(n1, v1), (f, v2)] = some v2 by simp [List.lookup, q1]]
      exact r2
    · have q2 : (f == n2) = false := beq_eq_false_iff_ne.mpr h2
      rw [if_neg h2, if_neg h1, show List.lookup f [(n1, v1), (n2, v2)] = none by simp [List.lookup, q1, q2]]
      trivial
section
variable {X : Cx} {C fI cc cda : Addr} {q : PySem.EXI.At} {msg n1 n2 qual : Str} {sc : Scope}
/-- C(a, b) -/
def tMk2 (C : Addr) (n1 n2 : Str) (ta : TA) : St → Hp → XK → Prop := fun σ H Q => ta σ H fun vs H1 => ∃ v1 v2, vs = [v1, v2] ∧ ∀ d, H1 d = none → Q (.ref C) (some d) (upd H1 d (.xd [(n1, v1), (n2, v2)]))
theorem pmk2 {x : Str} {a b : Expr} {ta : TA} {p pos : Pos} {k : Nat} (T : PySem.EXI.Txt X.K X.prog C fI cc cda q msg n1 n2 qual sc) (gC : X.mg x = some (.ref C)) (gs : X.mg "super" = none) (hr : Room k X.A) (ha : PA X [a, b] ta) (hg : Gl X x) (hdb : (x == ("__debug__" : Str)) = false)
    (he : starEach (a :: [b]) X.env = (false, eval a X.env) :: starEach [b] X.env) (hpl : (backTo pos (starEach [b] X.env)).any (·.1) = false) :
    PMk X (.Call (.Name x p) [a, b] [] pos) (tMk2 C n1 n2 ta) := by
  intro pins s σ H Q I h
  refine wpAny_Call_Name_kw (ld_glob I hg gC (PySem.W.callWith_K (h₀ := X.base) I.ok.mod.kin T.kC (thn (ha.run pos pins s σ H _ I h) fun us s1 hh => ?_) he hpl) hdb)
  obtain ⟨vs, H1, I1, r1, v1, v2, ev, q1⟩ := hh
  subst ev
  refine ⟨I1.kIn, ?_⟩
  cases r1 with
  | cons rv rn =>
    cases rn with
    | cons rw rn2 =>
      cases rn2
      rename_i u1 u2
      show wpAny _ _ (call (.ref C) [u1, u2]) _ _ _
      have hlim := I1.nolimit
      obtain ⟨mb, b1, b2⟩ := I1.mod.blt
      have hne : n1 ≠ n2 := by
        have h := T.dj
        simp only [List.nodup_cons, List.mem_cons, List.not_mem_nil, or_false, not_or] at h
        exact h.2.1
      have hG := I1.mod.glob.keeps I1.bk
      have hB := b1.keeps I1.bk
      obtain ⟨hp, g, dr, tk, os⟩ := s1
      have hdp : X.A.depth + 1 < recursionLimit := by
        have := hr.dp
        omega
      refine wpAny_call (PySem.EXI.made2 T I1.kIn hlim hG gs hB (b2 "super" (by decide)) hdp (fun h' tk' e d M => ?_))
      show MkP X pins σ Q (.ref e) ⟨h', g, dr, tk', os⟩
      obtain ⟨oe, fv, hoe, hc, hd, hdat, h1⟩ := M.obj
      obtain ⟨G', g1, g2⟩ := restrict h' fun b => decide (b ≠ e)
      have gk : ∀ b, b ≠ e → G'.get? b = h'.get? b := fun b hb => g1 b (decide_eq_true hb)
      have ge : G'.get? e = none := g2 e (by simp)
      have old : ∀ b o, hp.get? b = some o → G'.get? b = some o := fun b o z => (gk b (Nat.ne_of_lt (Nat.lt_of_lt_of_le (Heap.lt_size z) M.new))).trans (M.keep b o z)
      have ob : ObjOk X.prog X.w (upd H1 d (.xd [(n1, v1), (n2, v2)])) G' d (.xd [(n1, v1), (n2, v2)]) := ⟨_, M.ns.at (fun o z => (gk d M.dne).trans z), fun f => relO_two hne rv rw f⟩
      refine ⟨e, oe, fv, ⟨G', g, dr, tk', os⟩, _, .ref C, some d, rfl, I1.laid (t' := tk') old M.dbig ob, fun b o z => ?_, ge, hoe, ⟨hc, hd⟩, hdat, h1, ?_, rfl, I1.bare, raises_own T.exC T.tyC, q1 d (I1.hok.fresh M.dbig)⟩
      · by_cases hb : b = e
        · have z' : G'.get? b = some o := z
          rw [hb, ge] at z'
          cases z'
        · exact (gk b hb).symm.trans z
      · rw [upd_ne (Ne.symm M.dne)]
        exact I1.hok.fresh M.new
end
end L2

set_option Elab.async false
set_option autoImplicit false
set_option linter.all false
set_option maxRecDepth 100000
set_option maxHeartbeats 4000000
/-! E1: pure data, the memory of changeable things, and how they lie in the abstract heap. -/
namespace Py
open PySem PySem.Spec PyProof.Rows L2

/-- data: what never changes is told whole; what changes is a number in the memory; rol: a list that is only read -/
inductive D where
  | non | bl (b : Bool) | int (i : Int) | str (s : List Nat) | tup (xs : List D) | rol (xs : List D) | obj (n : Nat)
  deriving Inhabited
/-- a changeable thing -/
inductive MO where
  | lst (xs : List D)
  | dK (kvs : List (Key × D))
  | dT (kvs : List (List Key × D))
  /-- a dict while it is walked: only read -/
  | dL (kvs : List (Key × D))
  deriving Inhabited
abbrev Mem := List MO
def MO.free : MO → Bool | .dL _ => false | _ => true
structure Exn where
  cls : Nat
  fs : List D
inductive Res (α : Type) where
  | ok (a : α) (M : Mem)
  | exc (x : Exn) (M : Mem)
  | bad
abbrev Env := List (Option D)
abbrev Fr := PySem.W.Frag

abbrev sv (s : List Nat) : V := .str ⟨s.toArray⟩

/-! ### how data lies in the heap -/
/-- a list that nobody can change -/
def SqR (K : Fr) (H : Hp) (a : Addr) (xs : List V) : Prop :=
  (∃ o, H a = some (.frz o (.lst xs))) ∨
    ∃ (o : Obj) (its : Array Value) (n : Nat), K.lookup a = some o ∧ o.cls = .type "list" ∧ o.dict = none ∧ o.data = .seq its n ∧ its.size ≤ sizeLine ∧ Vals xs its.toList
theorem SqR.seq {K : Fr} {H : Hp} {a : Addr} {xs : List V} (h : SqR K H a xs) : SqL K H a xs := by
  rcases h with h | h
  · exact .inl (.inr h)
  · exact .inr h

mutual
inductive RV (K : Fr) (H : Hp) (ι : List Addr) : D → V → Prop
  | non : RV K H ι .non .non
  | bl (b : Bool) : RV K H ι (.bl b) (.bl b)
  | int (i : Int) : RV K H ι (.int i) (.int i)
  | str (s : List Nat) : RV K H ι (.str s) (sv s)
  | tup {a : Addr} {vs : List V} {ds : List D} : SqT K H a vs → RVs K H ι ds vs → RV K H ι (.tup ds) (.ref a)
  | rol {a : Addr} {vs : List V} {ds : List D} : SqR K H a vs → RVs K H ι ds vs → RV K H ι (.rol ds) (.ref a)
  | obj {n : Nat} {a : Addr} : ι[n]? = some a → RV K H ι (.obj n) (.ref a)
inductive RVs (K : Fr) (H : Hp) (ι : List Addr) : List D → List V → Prop
  | nil : RVs K H ι [] []
  | cons {d : D} {v : V} {ds : List D} {vs : List V} : RV K H ι d v → RVs K H ι ds vs → RVs K H ι (d :: ds) (v :: vs)
end

/-- nothing that never changes is lost -/
structure Le (H H' : Hp) : Prop where
  keep : ∀ b o, H b = some o → ¬ Mut (some o) → H' b = some o
theorem Le.tups {H H' : Hp} (e : Le H H') (b : Addr) (xs : List V) (h : H b = some (.tup xs)) : H' b = some (.tup xs) := e.keep _ _ h fun z => z
theorem Le.frzs {H H' : Hp} (e : Le H H') (b : Addr) (o : Obj) (u : HO) (h : H b = some (.frz o u)) : H' b = some (.frz o u) := e.keep _ _ h fun z => z
theorem Le.refl (H : Hp) : Le H H := ⟨fun _ _ h _ => h⟩
theorem Le.trans {H H1 H2 : Hp} (a : Le H H1) (b : Le H1 H2) : Le H H2 := ⟨fun c o h n => b.keep c o (a.keep c o h n) n⟩
theorem Le.new {H : Hp} {p : Addr} {o : HO} (n : H p = none) : Le H (upd H p o) := ⟨fun b u h _ => by rw [upd_ne (ne_of_none h n)]; exact h⟩
/-- a change of what may change -/
theorem Le.set {H : Hp} {p : Addr} {o u : HO} (e : H p = some u) (h1 : Mut (some u)) : Le H (upd H p o) := by
  refine ⟨fun b w h n => ?_⟩
  have : b ≠ p := by rintro rfl; rw [e] at h; cases h; exact n h1
  rw [upd_ne this]; exact h

/-- what values hang on stays -/
structure LeV (H H' : Hp) : Prop where
  tups : ∀ b xs, H b = some (.tup xs) → H' b = some (.tup xs)
  frzT : ∀ b o xs, H b = some (.frz o (.tup xs)) → H' b = some (.frz o (.tup xs))
  frzL : ∀ b o xs, H b = some (.frz o (.lst xs)) → H' b = some (.frz o (.lst xs))
theorem Le.v {H H' : Hp} (e : Le H H') : LeV H H' := ⟨e.tups, fun b o xs h => e.frzs b o _ h, fun b o xs h => e.frzs b o _ h⟩
structure Ext (H : Hp) (ι : List Addr) (H' : Hp) (ι' : List Addr) : Prop where
  le : Le H H'
  pre : ι <+: ι'
theorem Ext.refl (H : Hp) (ι : List Addr) : Ext H ι H ι := ⟨Le.refl H, List.prefix_refl ι⟩
theorem Ext.trans {H H1 H2 : Hp} {ι ι1 ι2 : List Addr} (a : Ext H ι H1 ι1) (b : Ext H1 ι1 H2 ι2) : Ext H ι H2 ι2 := ⟨a.le.trans b.le, a.pre.trans b.pre⟩

section
variable {K : Fr} {H H' : Hp} {ι ι' : List Addr}
theorem SqT.leV {a : Addr} {xs : List V} (h : SqT K H a xs) (e : LeV H H') : SqT K H' a xs := by
  rcases h with (h | ⟨o, h⟩) | h
  · exact .inl (.inl (e.tups _ _ h))
  · exact .inl (.inr ⟨o, e.frzT _ _ _ h⟩)
  · exact .inr h
theorem SqR.leV {a : Addr} {xs : List V} (h : SqR K H a xs) (e : LeV H H') : SqR K H' a xs := by
  rcases h with ⟨o, h⟩ | h
  · exact .inl ⟨o, e.frzL _ _ _ h⟩
  · exact .inr h
theorem SqT.le {a : Addr} {xs : List V} (h : SqT K H a xs) (e : Le H H') : SqT K H' a xs := Py.SqT.leV h e.v
theorem SqR.le {a : Addr} {xs : List V} (h : SqR K H a xs) (e : Le H H') : SqR K H' a xs := Py.SqR.leV h e.v
theorem pre_get {a : Addr} {n : Nat} (h : ι[n]? = some a) (p : ι <+: ι') : ι'[n]? = some a := by
  obtain ⟨t, rfl⟩ := p
  have hn : n < ι.length := (List.getElem?_eq_some_iff.mp h).1
  rw [List.getElem?_append_left hn]; exact h
mutual
theorem RV.mono (e : LeV H H') (pr : ι <+: ι') : ∀ (d : D) (v : V), RV K H ι d v → RV K H' ι' d v
  | .non, _, h => by cases h; exact .non
  | .bl _, _, h => by cases h; exact .bl _
  | .int _, _, h => by cases h; exact .int _
  | .str _, _, h => by cases h; exact .str _
  | .tup ds, _, h => by
    cases h with
    | tup h1 h2 => exact .tup (Py.SqT.leV h1 e) (RVs.mono e pr ds _ h2)
  | .rol ds, _, h => by
    cases h with
    | rol h1 h2 => exact .rol (Py.SqR.leV h1 e) (RVs.mono e pr ds _ h2)
  | .obj n, _, h => by
    cases h with
    | obj h1 => exact .obj (pre_get h1 pr)
theorem RVs.mono (e : LeV H H') (pr : ι <+: ι') : ∀ (ds : List D) (vs : List V), RVs K H ι ds vs → RVs K H' ι' ds vs
  | [], _, h => by cases h; exact .nil
  | d :: ds, _, h => by
    cases h with
    | cons h1 h2 => exact .cons (RV.mono e pr d _ h1) (RVs.mono e pr ds _ h2)
end
theorem RV.up {d : D} {v : V} (h : RV K H ι d v) (e : Ext H ι H' ι') : RV K H' ι' d v := RV.mono e.le.v e.pre d v h
theorem RVs.up {d : List D} {v : List V} (h : RVs K H ι d v) (e : Ext H ι H' ι') : RVs K H' ι' d v := RVs.mono e.le.v e.pre d v h
theorem RVs.length : ∀ {ds : List D} {vs : List V}, RVs K H ι ds vs → ds.length = vs.length
  | [], _, h => by cases h; rfl
  | d :: ds, _, h => by
    cases h with
    | cons _ h2 => rw [List.length_cons, List.length_cons, RVs.length h2]
theorem RVs.get : ∀ {ds : List D} {vs : List V} {i : Nat} {d : D}, RVs K H ι ds vs → ds[i]? = some d → ∃ v, vs[i]? = some v ∧ RV K H ι d v
  | [], _, _, _, _, e => by simp at e
  | x :: ds, _, 0, d, h, e => by
    cases h with
    | cons h1 h2 => simp at e; subst e; exact ⟨_, rfl, h1⟩
  | x :: ds, _, i + 1, d, h, e => by
    cases h with
    | cons h1 h2 =>
      obtain ⟨v, a, b⟩ := RVs.get (i := i) h2 (by simpa using e)
      exact ⟨v, by simpa using a, b⟩
theorem RVs.get' : ∀ {ds : List D} {vs : List V} {i : Nat} {v : V}, RVs K H ι ds vs → vs[i]? = some v → ∃ d, ds[i]? = some d ∧ RV K H ι d v
  | [], _, _, _, h, e => by cases h; simp at e
  | x :: ds, _, 0, d, h, e => by
    cases h with
    | cons h1 h2 => simp at e; subst e; exact ⟨_, rfl, h1⟩
  | x :: ds, _, i + 1, d, h, e => by
    cases h with
    | cons h1 h2 =>
      obtain ⟨v, a, b⟩ := RVs.get' (i := i) h2 (by simpa using e)
      exact ⟨v, by simpa using a, b⟩
theorem RVs.append : ∀ {ds es : List D} {vs ws : List V}, RVs K H ι ds vs → RVs K H ι es ws → RVs K H ι (ds ++ es) (vs ++ ws)
  | [], _, _, _, h, g => by cases h; exact g
  | d :: ds, _, _, _, h, g => by
    cases h with
    | cons h1 h2 => exact .cons h1 (RVs.append h2 g)
theorem RVs.reverse : ∀ {ds : List D} {vs : List V}, RVs K H ι ds vs → RVs K H ι ds.reverse vs.reverse
  | [], _, h => by cases h; exact .nil
  | d :: ds, _, h => by
    cases h with
    | cons h1 h2 =>
      rw [List.reverse_cons, List.reverse_cons]
      exact RVs.append (RVs.reverse h2) (.cons h1 .nil)
theorem RVs.take : ∀ {ds : List D} {vs : List V} (n : Nat), RVs K H ι ds vs → RVs K H ι (ds.take n) (vs.take n)
  | _, _, 0, _ => .nil
  | [], _, n + 1, h => by cases h; exact .nil
  | d :: ds, _, n + 1, h => by
    cases h with
    | cons h1 h2 => exact .cons h1 (RVs.take n h2)
theorem RVs.drop : ∀ {ds : List D} {vs : List V} (n : Nat), RVs K H ι ds vs → RVs K H ι (ds.drop n) (vs.drop n)
  | _, _, 0, h => h
  | [], _, n + 1, h => by cases h; exact .nil
  | d :: ds, _, n + 1, h => by
    cases h with
    | cons h1 h2 => exact RVs.drop n h2
theorem RVs.set {d : D} {v : V} (r : RV K H ι d v) : ∀ {ds : List D} {vs : List V} (n : Nat), RVs K H ι ds vs → RVs K H ι (ds.set n d) (vs.set n v)
  | [], _, _, h => by cases h; exact .nil
  | _ :: _, _, 0, h => by cases h with | cons h1 h2 => exact .cons r h2
  | _ :: _, _, n + 1, h => by cases h with | cons h1 h2 => exact .cons h1 (RVs.set r n h2)
theorem RVs.dropLast {ds : List D} {vs : List V} (h : RVs K H ι ds vs) : RVs K H ι ds.dropLast vs.dropLast := by
  rw [List.dropLast_eq_take, List.dropLast_eq_take, h.length]; exact h.take _
theorem RVs.ints : ∀ {ns : List Int} {vs : List V}, RVs K H ι (ns.map D.int) vs → vs = ns.map V.int
  | [], _, h => by cases h; rfl
  | n :: ns, _, h => by
    cases h with
    | cons h1 h2 => cases h1; rw [RVs.ints h2]; rfl
theorem RVs.ofInts : ∀ (ns : List Int), RVs K H ι (ns.map D.int) (ns.map V.int)
  | [] => .nil
  | n :: ns => .cons (.int n) (RVs.ofInts ns)
theorem RVs.nil_iff {ds : List D} {vs : List V} (h : RVs K H ι ds vs) : vs = [] ↔ ds = [] := by
  have := h.length
  cases ds <;> cases vs <;> simp_all
end

/-- pairs of a dict -/
def RKV (K : Fr) (H : Hp) (ι : List Addr) {κ : Type} : List (κ × D) → List (κ × V) → Prop := Paired fun p q => p.1 = q.1 ∧ RV K H ι p.2 q.2
/-- how a changeable thing lies -/
def RO (K : Fr) (H : Hp) (ι : List Addr) : MO → HO → Prop
  | .lst ds, o => ∃ vs, o = .lst vs ∧ RVs K H ι ds vs
  | .dK kvs, o => ∃ vs, o = .dK vs ∧ RKV K H ι kvs vs
  | .dT kvs, o => ∃ vs, o = .dT vs ∧ RKV K H ι kvs vs
  | .dL kvs, o => ∃ od vs, o = .frz od (.dK vs) ∧ RKV K H ι kvs vs
theorem Paired.imp {α β : Type} {F G : α → β → Prop} : ∀ {l : List α} {m : List β}, Paired F l m → (∀ a b, F a b → G a b) → Paired G l m
  | _, _, .nil, _ => .nil
  | _, _, .cons r t, f => .cons (f _ _ r) (Paired.imp t f)
section
variable {K : Fr} {H H' : Hp} {ι ι' : List Addr}
theorem RKV.mono {κ : Type} {a : List (κ × D)} {b : List (κ × V)} (h : RKV K H ι a b) (e : LeV H H') (p : ι <+: ι') : RKV K H' ι' a b := Paired.imp h fun _ _ r => ⟨r.1, RV.mono e p _ _ r.2⟩
theorem RKV.up {κ : Type} {a : List (κ × D)} {b : List (κ × V)} (h : RKV K H ι a b) (e : Ext H ι H' ι') : RKV K H' ι' a b := h.mono e.le.v e.pre
theorem RO.mono {m : MO} {o : HO} (h : RO K H ι m o) (e : LeV H H') (p : ι <+: ι') : RO K H' ι' m o := by
  cases m with
  | lst ds => obtain ⟨vs, a, b⟩ := h; exact ⟨vs, a, RVs.mono e p _ _ b⟩
  | dK ds => obtain ⟨vs, a, b⟩ := h; exact ⟨vs, a, b.mono e p⟩
  | dT ds => obtain ⟨vs, a, b⟩ := h; exact ⟨vs, a, b.mono e p⟩
  | dL ds => obtain ⟨od, vs, a, b⟩ := h; exact ⟨od, vs, a, b.mono e p⟩
theorem RO.up {m : MO} {o : HO} (h : RO K H ι m o) (e : Ext H ι H' ι') : RO K H' ι' m o := h.mono e.le.v e.pre
theorem RO.mut {m : MO} {o : HO} (h : RO K H ι m o) (hf : m.free = true) : Mut (some o) := by
  cases m with
  | lst ds => obtain ⟨vs, rfl, b⟩ := h; trivial
  | dK ds => obtain ⟨vs, rfl, b⟩ := h; trivial
  | dT ds => obtain ⟨vs, rfl, b⟩ := h; trivial
  | dL ds => cases hf
end
structure RM (K : Fr) (H : Hp) (ι : List Addr) (M : Mem) : Prop where
  len : ι.length = M.length
  nd : ι.Nodup
  at_ : ∀ (n : Nat) (m : MO), M[n]? = some m → ∃ a o, ι[n]? = some a ∧ H a = some o ∧ RO K H ι m o
section
variable {K : Fr} {H H' : Hp} {ι ι' : List Addr} {M : Mem}
theorem RM.mem (h : RM K H ι M) {a : Addr} (ha : a ∈ ι) : ∃ o, H a = some o := by
  obtain ⟨n, hn, e⟩ := List.getElem_of_mem ha
  have hm : n < M.length := by rw [← h.len]; exact hn
  obtain ⟨a', o, h1, h2, _⟩ := h.at_ n M[n] (List.getElem?_eq_getElem hm)
  rw [List.getElem?_eq_getElem hn, e] at h1
  cases h1
  exact ⟨o, h2⟩
/-- a new untracked-by-the-memory object (a tuple) -/
theorem RM.other (h : RM K H ι M) {p : Addr} {o : HO} (n : H p = none) : RM K (upd H p o) ι M := by
  refine ⟨h.len, h.nd, fun k m e => ?_⟩
  obtain ⟨a, u, h1, h2, h3⟩ := h.at_ k m e
  exact ⟨a, u, h1, by rw [upd_ne (ne_of_none h2 n)]; exact h2, h3.up ⟨Le.new n, List.prefix_refl _⟩⟩
/-- a new changeable thing -/
theorem RM.new (h : RM K H ι M) {p : Addr} {o : HO} {m : MO} (n : H p = none) (r : RO K H ι m o) : Ext H ι (upd H p o) (ι ++ [p]) ∧ RM K (upd H p o) (ι ++ [p]) (M ++ [m]) ∧ (ι ++ [p])[M.length]? = some p := by
  have e : Ext H ι (upd H p o) (ι ++ [p]) := ⟨Le.new n, List.prefix_append _ _⟩
  have hp : p ∉ ι := fun hm => by
    obtain ⟨u, q⟩ := h.mem hm
    rw [n] at q; cases q
  have last : (ι ++ [p])[M.length]? = some p := by rw [← h.len]; simp
  refine ⟨e, ⟨by rw [List.length_append, List.length_append, h.len]; rfl, ?_, fun k m' q => ?_⟩, last⟩
  · rw [List.nodup_append]
    refine ⟨h.nd, by simp, fun a ha b hb => ?_⟩
    have : b = p := by simpa using hb
    subst this
    exact fun z => hp (z ▸ ha)
  · by_cases hk : k < M.length
    · rw [List.getElem?_append_left hk] at q
      obtain ⟨a, u, h1, h2, h3⟩ := h.at_ k m' q
      exact ⟨a, u, pre_get h1 e.pre, by rw [upd_ne (ne_of_none h2 n)]; exact h2, h3.up e⟩
    · have hl : k < (M ++ [m]).length := (List.getElem?_eq_some_iff.mp q).1
      rw [List.length_append] at hl
      have hk' : k = M.length := by simp at hl; omega
      subst hk'
      have : m' = m := by simpa using q.symm
      subst this
      exact ⟨p, o, last, upd_same, r.up e⟩
/-- a changeable thing is changed -/
theorem RM.set (h : RM K H ι M) {n : Nat} {a : Addr} {o : HO} {m0 m : MO} (hn : M[n]? = some m0) (ha : ι[n]? = some a) (r : RO K H ι m o) (hf : m0.free = true := by rfl) : Ext H ι (upd H a o) ι ∧ RM K (upd H a o) ι (M.set n m) := by
  obtain ⟨a', u, h1, h2, h3⟩ := h.at_ n m0 hn
  rw [ha] at h1; cases h1
  have e : Ext H ι (upd H a o) ι := ⟨Le.set h2 (h3.mut hf), List.prefix_refl _⟩
  refine ⟨e, ⟨by rw [List.length_set]; exact h.len, h.nd, fun k m' q => ?_⟩⟩
  by_cases hk : k = n
  · subst hk
    have hl : k < M.length := (List.getElem?_eq_some_iff.mp hn).1
    rw [List.getElem?_set_self hl] at q
    cases q
    exact ⟨a, o, ha, upd_same, r.up e⟩
  · rw [List.getElem?_set_ne (Ne.symm hk)] at q
    obtain ⟨b, w, g1, g2, g3⟩ := h.at_ k m' q
    have hb : b ≠ a := by
      rintro rfl
      obtain ⟨l1, e1⟩ := List.getElem?_eq_some_iff.mp g1
      obtain ⟨l2, e2⟩ := List.getElem?_eq_some_iff.mp ha
      exact hk ((List.getElem_inj h.nd).mp (e1.trans e2.symm))
    exact ⟨b, w, g1, by rw [upd_ne hb]; exact g2, g3.up e⟩
/-- a dict is walked no more -/
theorem RM.unlock (h : RM K H ι M) {n : Nat} {a : Addr} {kvs : List (Key × D)} (hn : M[n]? = some (.dL kvs)) (ha : ι[n]? = some a) : ∃ od vs, H a = some (.frz od (.dK vs)) ∧ LeV H (upd H a (.dK vs)) ∧ RM K (upd H a (.dK vs)) ι (M.set n (.dK kvs)) := by
  obtain ⟨a', u, h1, h2, h3⟩ := h.at_ n _ hn
  rw [ha] at h1; cases h1
  obtain ⟨od, vs, rfl, r⟩ := h3
  have ne : ∀ {b : Addr} {w : HO}, H b = some w → (∀ z, w ≠ .frz od (.dK z)) → b ≠ a := fun {b w} hb hw => by
    rintro rfl
    rw [h2] at hb
    cases hb
    exact hw _ rfl
  have e : LeV H (upd H a (.dK vs)) := ⟨fun b xs q => by rw [upd_ne (ne q fun z => by intro q; cases q)]; exact q, fun b o xs q => by rw [upd_ne (ne q fun z => by intro q; cases q)]; exact q, fun b o xs q => by rw [upd_ne (ne q fun z => by intro q; cases q)]; exact q⟩
  refine ⟨od, vs, h2, e, ⟨by rw [List.length_set]; exact h.len, h.nd, fun k m' q => ?_⟩⟩
  by_cases hk : k = n
  · subst hk
    have hl : k < M.length := (List.getElem?_eq_some_iff.mp hn).1
    rw [List.getElem?_set_self hl] at q
    cases q
    exact ⟨a, _, ha, upd_same, vs, rfl, r.mono e (List.prefix_refl _)⟩
  · rw [List.getElem?_set_ne (Ne.symm hk)] at q
    obtain ⟨b, w, g1, g2, g3⟩ := h.at_ k m' q
    have hb : b ≠ a := by
      rintro rfl
      obtain ⟨l1, e1⟩ := List.getElem?_eq_some_iff.mp g1
      obtain ⟨l2, e2⟩ := List.getElem?_eq_some_iff.mp ha
      exact hk ((List.getElem_inj h.nd).mp (e1.trans e2.symm))
    exact ⟨b, w, g1, by rw [upd_ne hb]; exact g2, g3.mono e (List.prefix_refl _)⟩
theorem RM.lst (h : RM K H ι M) {n : Nat} {ds : List D} {v : V} (e : M[n]? = some (.lst ds)) (r : RV K H ι (.obj n) v) : ∃ a vs, v = .ref a ∧ ι[n]? = some a ∧ H a = some (.lst vs) ∧ RVs K H ι ds vs := by
  obtain ⟨a, o, h1, h2, vs, rfl, h3⟩ := h.at_ n _ e
  cases r with
  | obj h4 =>
    rw [h1] at h4; cases h4
    exact ⟨a, vs, rfl, h1, h2, h3⟩
end

/-! ### the slots -/
structure RS (K : Fr) (H : Hp) (ι : List Addr) (σ : L2.St) (env : Env) : Prop where
  len : σ.length = env.length
  at_ : ∀ (i : Nat) (d : D), env[i]? = some (some d) → ∃ v, σ[i]? = some (some v) ∧ RV K H ι d v
section
variable {K : Fr} {H H' : Hp} {ι ι' : List Addr} {σ : L2.St} {env : Env}
theorem RS.up (h : RS K H ι σ env) (e : Ext H ι H' ι') : RS K H' ι' σ env :=
  ⟨h.len, fun i d q => let ⟨v, a, b⟩ := h.at_ i d q; ⟨v, a, b.up e⟩⟩
theorem RS.set (h : RS K H ι σ env) {i : Nat} {d : D} {v : V} (r : RV K H ι d v) : RS K H ι (σ.set i (some v)) (env.set i (some d)) := by
  refine ⟨by rw [List.length_set, List.length_set]; exact h.len, fun j e q => ?_⟩
  by_cases hj : i = j
  · subst hj
    have hl : i < env.length := by
      have := (List.getElem?_eq_some_iff.mp q).1
      rwa [List.length_set] at this
    rw [List.getElem?_set_self hl] at q
    cases q
    exact ⟨v, by rw [List.getElem?_set_self (by rw [h.len]; exact hl)], r⟩
  · rw [List.getElem?_set_ne hj] at q ⊢
    exact h.at_ j e q
theorem RS.start {vs : List V} {ds : List D} (r : RVs K H ι ds vs) (N : List Str) : RS K H ι (L2.start N vs) (ds.map some ++ List.replicate (N.length - ds.length) none) := by
  have hl := r.length
  unfold L2.start
  refine ⟨by simp [hl], fun i d q => ?_⟩
  by_cases hi : i < ds.length
  · rw [List.getElem?_append_left (by simpa using hi), List.getElem?_map] at q
    cases e : ds[i]? with
    | none => rw [e] at q; cases q
    | some d' =>
      rw [e] at q
      cases q
      obtain ⟨v, a, b⟩ := r.get e
      refine ⟨v, ?_, b⟩
      rw [List.getElem?_append_left (by simp; omega), List.getElem?_map, a]; rfl
  · rw [List.getElem?_append_right (by simpa using hi), List.getElem?_replicate] at q
    split at q <;> cases q
end
end Py

set_option Elab.async false
set_option autoImplicit false
set_option linter.all false
set_option maxRecDepth 100000
set_option maxHeartbeats 4000000
/-! E2: the small language (IR) and what it does, over pure data. -/
namespace Py
open PySem L2

inductive BOp where | add | sub | mul | fdiv | mod | pow
  deriving DecidableEq
inductive COp where | eq | ne | lt | le | gt | ge | isin | notin | is | isnot
  deriving DecidableEq
inductive Bi where | len | int | abs | max2 | min2 | ord | tuple | list | isInt | isStr | isTup | isBool | isDict | isList | sorted | sum | max1
  deriving DecidableEq
inductive Me where | append | extend | pop | join
  deriving DecidableEq

inductive Tg where
  | name (i : Nat)
  | tup (ts : List Tg)

mutual
/-- what an except clause gives back: constants, fields of the error -/
inductive XE where
  | int (i : Int) | str (s : List Nat) | bl (b : Bool) | non | fld (j : Nat) | tup (xs : Xs)
inductive Xs where | nil | cons (x : XE) (xs : Xs)
end
mutual
inductive E where
  | var (i : Nat) | int (i : Int) | str (s : List Nat) | bl (b : Bool) | non | glob (g : Nat)
  | tup (es : Es) | lst (es : Es) | dict0 | stuck
  | neg (a : E) | bin (o : BOp) (a b : E)
  | cmp (o : COp) (a b : E) | chain (o : COp) (a b : E) (r : Ch)
  | notE (a : E) | andE (a b : E) | orE (a b : E) | ifE (c : T) (a b : E)
  | ix (a b : E) | slice (a : E) (lo hi : OE)
  | call (f : Nat) (es : Es) | blt (b : Bi) (es : Es) | meth (m : Me) (o : E) (es : Es)
  | lc (own : List Nat) (tg : Tg) (it : Wi) (c : OT) (e : E)
  /-- x[::-1] of a list -/
  | rev (a : E)
  /-- what the steps of e left and nothing needs any more is dropped -/
  | tidy (e : E)
/-- a comparison's further links -/
inductive Ch where
  | last (o : COp) (a : E) | more (o : COp) (a : E) (r : Ch)
inductive Es where | nil | cons (e : E) (es : Es)
inductive OE where | none | some (e : E)
inductive T where
  | tr (e : E) | cmp (o : COp) (a b : E) | chain (o : COp) (a b : E) (r : Ch) | and (a b : T) | or (a b : T) | not (a : T)
inductive OT where | none | some (c : T)
inductive Wi where
  | seq (e : E) | range1 (a : E) | range2 (a b : E)
  /-- a dict's keys, the dict locked -/
  | keys (i : Nat)
end
mutual
inductive S where
  | set (tg : Tg) (e : E) | setix (o i e : E) | aug (i : Nat) (o : BOp) (e : E) | expr (e : E) | ret (e : E) | ret0
  | ifS (c : T) (a b : Ss) | forS (tg : Tg) (it : Wi) (b : Ss) | whileS (c : T) (b : Ss)
  | brk | cont | pass | stuck
  | tidy (s : S)
  /-- while a dict is only read -/
  | lock (i : Nat) (s : S)
  /-- raise C("..") of a class without fields, raise C(a, b) -/
  | raise0 (c : Nat) | raise (c : Nat) (a b : E)
  /-- try: b except C as e: return x; of the classes of os is known that they are none of it -/
  | tryAs (b : Ss) (c : Nat) (os : List Nat) (i : Nat) (x : XE)
inductive Ss where | nil | cons (s : S) (ss : Ss)
end

inductive Fl where | next | brk | cont | ret (d : D)
inductive SR where
  | ok (f : Fl) (env : Env) (M : Mem)
  | exc (x : Exn) (env : Env) (M : Mem)
  | bad

namespace Res
@[inline] def bind {α β : Type} (r : Res α) (k : α → Mem → Res β) : Res β := match r with
  | .ok a M => k a M
  | .exc x M => .exc x M
  | .bad => .bad
def ofO {α : Type} (o : Option (α × Mem)) : Res α := match o with
  | some (a, M) => .ok a M
  | none => .bad
def ofV {α : Type} (o : Option α) (M : Mem) : Res α := match o with
  | some a => .ok a M
  | none => .bad
end Res

/-! ### the operations -/
/- as plain data -/
mutual
def py : D → PyData
  | .non => .none | .bl b => .bool b | .int i => .int i | .str s => .str ⟨s.toArray⟩
  | .tup xs => .tuple (pys xs) | .rol xs => .list (pys xs) | .obj _ => .none
def pys : List D → List PyData
  | [] => []
  | x :: xs => py x :: pys xs
end
/- no changeable thing within -/
mutual
def flat : D → Bool
  | .tup xs => flats xs | .rol xs => flats xs | .obj _ => false | _ => true
def flats : List D → Bool
  | [] => true
  | x :: xs => flat x && flats xs
end
def pyM (M : Mem) : D → Option PyData
  | .obj n => match M[n]? with
    | some (.lst xs) => if flats xs then some (.list (pys xs)) else none
    | _ => none
  | d => if flat d then some (py d) else none
def okPy (d : PyData) : Bool := d.canLay0 && decide (d.depth ≤ 150)
/-- == -/
def opEq (M : Mem) : D → D → Option Bool
  | .int i, .int j => some (i == j)
  | .str s, .str t => some (s == t)
  | .bl i, .bl j => some (i == j)
  | .non, .non => some true
  | a, b => match pyM M a, pyM M b with
    | some x, some y => if okPy x && okPy y then some (PyData.eqv x y) else none
    | _, _ => none
/-- the items of what may be asked with in -/
def itemsOf (M : Mem) : D → Option (List D)
  | .tup xs => some xs
  | .rol xs => some xs
  | .obj n => match M[n]? with
    | some (.lst xs) => some xs
    | _ => none
  | _ => none
def keyOf : D → Option Key
  | .int i => some (.inl i)
  | .str s => some (.inr ⟨s.toArray⟩)
  | _ => none
def keyed (k : Key) : List (Key × D) → Option D
  | [] => none
  | (k', d) :: r => if k' = k then some d else keyed k r
def putKey (k : Key) (d : D) (kvs : List (Key × D)) : List (Key × D) :=
  if (kvs.any fun kv => decide (kv.1 = k)) = true then kvs.map (fun kv => if kv.1 = k then (kv.1, d) else kv) else kvs ++ [(k, d)]
def opIn (M : Mem) (x : D) (c : D) : Option Bool := match c with
  | .obj n => match M[n]? with
    | some (.lst xs) => if flats xs && flat x && okPy (py x) && PyData.canLayAll0 (pys xs) then some ((pys xs).any fun z => PyData.eqv z (py x)) else none
    | some (.dK kvs) => match keyOf x with
      | some k => some (keyed k kvs).isSome
      | none => none
    | some (.dL kvs) => match keyOf x with
      | some k => some (keyed k kvs).isSome
      | none => none
    | _ => none
  | .tup xs => if flats xs && flat x && okPy (py x) && PyData.canLayAll0 (pys xs) then some ((pys xs).any fun z => PyData.eqv z (py x)) else none
  | _ => none
def lexLe (a b : List Nat) : Bool := decide (¬ b < a)
def opCmp (o : COp) (a b : D) (M : Mem) : Option Bool := match o, a, b with
  | .eq, a, b => opEq M a b
  | .ne, a, b => (opEq M a b).map (!·)
  | .lt, .int i, .int j => some (decide (i < j))
  | .le, .int i, .int j => some (decide (i ≤ j))
  | .gt, .int i, .int j => some (decide (j < i))
  | .ge, .int i, .int j => some (decide (j ≤ i))
  | .lt, .str s, .str t => some (decide (s < t))
  | .le, .str s, .str t => some (lexLe s t)
  | .isin, x, c => opIn M x c
  | .notin, x, c => (opIn M x c).map (!·)
  | .is, .non, .non => some true
  | .is, .bl _, .non => some false
  | .is, .int _, .non => some false
  | .is, .str _, .non => some false
  | .is, .tup _, .non => some false
  | .is, .obj _, .non => some false
  | .isnot, .non, .non => some false
  | .isnot, .bl _, .non => some true
  | .isnot, .int _, .non => some true
  | .isnot, .str _, .non => some true
  | .isnot, .tup _, .non => some true
  | .isnot, .obj _, .non => some true
  | .is, .bl a, .bl b => some (a == b)
  | .is, .int _, .bl _ => some false
  | .is, .str _, .bl _ => some false
  | .is, .non, .bl _ => some false
  | .is, .tup _, .bl _ => some false
  | .isnot, .bl a, .bl b => some (!(a == b))
  | .isnot, .int _, .bl _ => some true
  | .isnot, .str _, .bl _ => some true
  | .isnot, .non, .bl _ => some true
  | .isnot, .tup _, .bl _ => some true
  | _, _, _ => none
def small (i : Int) : Bool := decide (-(2 ^ 64) < i ∧ i < 2 ^ 64)
def opBin (o : BOp) (a b : D) (M : Mem) : Option (D × Mem) := match o, a, b with
  | .add, .int i, .int j => some (.int (i + j), M)
  | .add, .str s, .str t => if s.length + t.length ≤ sizeLine then some (.str (s ++ t), M) else none
  | .add, .tup xs, .tup ys => if xs.length + ys.length ≤ sizeLine then some (.tup (xs ++ ys), M) else none
  | .add, .obj m, .obj n => match M[m]?, M[n]? with
    | some (.lst xs), some (.lst ys) => if xs.length + ys.length ≤ sizeLine then some (.obj M.length, M ++ [MO.lst (xs ++ ys)]) else none
    | _, _ => none
  | .sub, .int i, .int j => some (.int (i - j), M)
  | .mul, .int i, .int j => if small i || small j then some (.int (i * j), M) else none
  | .mul, .str s, .int k => if decide (s.length ≤ 1000) && decide (k ≤ 1000) && decide (-1000 ≤ k) then some (.str (List.replicate k.toNat s).flatten, M) else none
  | .mul, .tup xs, .int k => if decide (xs ≠ []) && decide (2 ≤ k) && decide (k ≤ 1000) && decide (xs.length ≤ 1000) then some (.tup (List.replicate k.toNat xs).flatten, M) else none
  | .fdiv, .int i, .int j => if 0 < j ∧ j < 1073741824 then some (.int (i / j), M) else none
  | .mod, .int i, .int j => if 0 < j then some (.int (i % j), M) else none
  | .pow, .int i, .int j => if 0 ≤ j ∧ j ≤ 1000000 ∧ i.natAbs < 2 ^ 64 then some (.int (i ^ j.toNat), M) else none
  | _, _, _ => none
def truth (d : D) (M : Mem) : Option Bool := match d with
  | .non => some false
  | .bl b => some b
  | .int i => some (i != 0)
  | .str s => if s.length ≤ sizeLine then some (!s.isEmpty) else none
  | .tup xs => some (!xs.isEmpty)
  | .rol xs => some (!xs.isEmpty)
  | .obj n => match M[n]? with
    | some (.lst xs) => some (!xs.isEmpty)
    | some (.dK kvs) => some (!kvs.isEmpty)
    | _ => none
def opIx (a b : D) (M : Mem) : Option D := match a, b with
  | .tup xs, .int i => atI xs i
  | .rol xs, .int i => atI xs i
  | .str s, .int i => if s.length ≤ sizeLine then (atI s i).map fun c => .str [c] else none
  | .obj n, k => match M[n]? with
    | some (.lst xs) => match k with
      | .int i => atI xs i
      | _ => none
    | some (.dK kvs) => (keyOf k).bind fun k => keyed k kvs
    | some (.dL kvs) => (keyOf k).bind fun k => keyed k kvs
    | _ => none
  | _, _ => none
def cut {α : Type} (xs : List α) (lo hi : Option Int) : List α := (xs.drop (HT.sIx xs.length 0 lo)).take (HT.sIx xs.length xs.length hi - HT.sIx xs.length 0 lo)
def opSlice (a : D) (lo hi : Option Int) (M : Mem) : Option (D × Mem) := match a with
  | .tup xs => some (.tup (cut xs lo hi), M)
  | .str s => if s.length ≤ sizeLine then some (.str (cut s lo hi), M) else none
  | .obj n => match M[n]? with
    | some (.lst xs) => some (.obj M.length, M ++ [MO.lst (cut xs lo hi)])
    | _ => none
  | _ => none
def opSetIx (o i v : D) (M : Mem) : Option Mem := match o with
  | .obj n => match M[n]? with
    | some (.lst xs) => match i with
      | .int k => (ixN xs.length k).map fun j => M.set n (.lst (xs.set j v))
      | _ => none
    | some (.dK kvs) => (keyOf i).bind fun k => if kvs.length < sizeLine then some (M.set n (.dK (putKey k v kvs))) else none
    | _ => none
  | _ => none
def opAug : BOp → D → D → Option D
  | .add, .int a, .int b => some (.int (a + b))
  | .sub, .int a, .int b => some (.int (a - b))
  | _, _, _ => none
def strsOf : List D → Option (List (List Nat))
  | [] => some []
  | .str s :: r => (strsOf r).map (s :: ·)
  | _ => none
def intsOf : List D → Option (List Int)
  | [] => some []
  | .int s :: r => (intsOf r).map (s :: ·)
  | _ => none
def sumLen (xs : List (List Nat)) : Nat := (xs.map List.length).sum
def insI (x : Int) : List Int → List Int
  | [] => [x]
  | y :: r => if x ≤ y then x :: y :: r else y :: insI x r
def sortI : List Int → List Int
  | [] => []
  | x :: r => insI x (sortI r)
/-- a stable sort -/
def insBy {α : Type} (lt : α → α → Bool) (x : α) : List α → List α
  | [] => [x]
  | y :: r => if lt y x = true then y :: insBy lt x r else x :: y :: r
def sortBy {α : Type} (lt : α → α → Bool) : List α → List α
  | [] => []
  | x :: r => insBy lt x (sortBy lt r)
def strLt (a b : List Nat) : Bool := decide (a < b)
def pairLt (p q : List Nat × List Nat) : Bool := if p.1 = q.1 then decide (p.2 < q.2) else decide (p.1 < q.1)
def pairsOf : List D → Option (List (List Nat × List Nat))
  | [] => some []
  | .tup [.str a, .str b] :: r => (pairsOf r).map ((a, b) :: ·)
  | _ => none
/-- ints (fewer than 64), texts, pairs of texts -/
def sortD (xs : List D) : Option (List D) := match intsOf xs with
  | some ns => if ns.length < 64 then some ((sortI ns).map D.int) else none
  | none => match strsOf xs with
    | some ss => some ((sortBy strLt ss).map D.str)
    | none => (pairsOf xs).map fun ps => (sortBy pairLt ps).map fun p => D.tup [.str p.1, .str p.2]
def maxI (n : Int) : List Int → Int
  | [] => n
  | m :: r => maxI (if m > n then m else n) r
/-- a dict (true), a list (false) -/
def objDict (M : Mem) (n : Nat) : Option Bool := match M[n]? with
  | some (.lst _) => some false
  | some (.dK _) => some true
  | _ => none
def opBi (b : Bi) (ds : List D) (M : Mem) : Option (D × Mem) := match b, ds with
  | .len, [.str s] => if s.length ≤ sizeLine then some (.int s.length, M) else none
  | .len, [.tup xs] => some (.int xs.length, M)
  | .len, [.rol xs] => some (.int xs.length, M)
  | .len, [.obj n] => match M[n]? with
    | some (.lst xs) => some (.int xs.length, M)
    | some (.dK xs) => some (.int xs.length, M)
    | _ => none
  | .int, [.int i] => some (.int i, M)
  | .int, [.bl b] => some (.int (if b then 1 else 0), M)
  | .abs, [.int i] => some (.int (if i < 0 then -i else i), M)
  | .max2, [.int i, .int j] => some (.int (if j > i then j else i), M)
  | .min2, [.int i, .int j] => some (.int (if j < i then j else i), M)
  | .ord, [.str [c]] => some (.int c, M)
  | .tuple, [.tup xs] => some (.tup xs, M)
  | .tuple, [.obj n] => match M[n]? with
    | some (.lst xs) => some (.tup xs, M)
    | _ => none
  | .list, [d] => match itemsOf M d with
    | some xs => some (.obj M.length, M ++ [MO.lst xs])
    | none => none
  | .isInt, [d] => match d with
    | .int _ => some (.bl true, M) | .bl _ => some (.bl true, M) | .obj n => (objDict M n).map fun _ => (.bl false, M) | .rol _ => none
    | _ => some (.bl false, M)
  | .isBool, [d] => match d with
    | .bl _ => some (.bl true, M) | .obj n => (objDict M n).map fun _ => (.bl false, M) | .rol _ => none
    | _ => some (.bl false, M)
  | .isStr, [d] => match d with
    | .str _ => some (.bl true, M) | .obj n => (objDict M n).map fun _ => (.bl false, M) | .rol _ => none
    | _ => some (.bl false, M)
  | .isTup, [d] => match d with
    | .tup _ => some (.bl true, M) | .obj n => (objDict M n).map fun _ => (.bl false, M) | .rol _ => none
    | _ => some (.bl false, M)
  | .isDict, [d] => match d with
    | .obj n => (objDict M n).map fun b => (.bl b, M) | .rol _ => none
    | _ => some (.bl false, M)
  | .isList, [d] => match d with
    | .obj n => (objDict M n).map fun b => (.bl (!b), M) | .rol _ => none
    | _ => some (.bl false, M)
  | .sorted, [.obj n] => match M[n]? with
    | some (.lst xs) => (sortD xs).map fun ys => (.obj M.length, M ++ [MO.lst ys])
    | _ => none
  | .max1, [.obj n] => match M[n]? with
    | some (.lst xs) => (intsOf xs).bind fun ns => match ns with
      | [] => none
      | n :: r => some (.int (maxI n r), M)
    | _ => none
  | .sum, [.obj n] => match M[n]? with
    | some (.lst xs) => (intsOf xs).map fun ns => (.int ns.sum, M)
    | _ => none
  | _, _ => none
def opMe (m : Me) (o : D) (ds : List D) (M : Mem) : Option (D × Mem) := match m, o, ds with
  | .append, .obj n, [d] => match M[n]? with
    | some (.lst xs) => if xs.length < sizeLine then some (.non, M.set n (.lst (xs ++ [d]))) else none
    | _ => none
  | .extend, .obj n, [.obj k] => match M[n]?, M[k]? with
    | some (.lst xs), some (.lst ys) => if xs.length + ys.length ≤ sizeLine then some (.non, M.set n (.lst (xs ++ ys))) else none
    | _, _ => none
  | .pop, .obj n, [] => match M[n]? with
    | some (.lst xs) => (xs[xs.length - 1]?).map fun d => (d, M.set n (.lst xs.dropLast))
    | _ => none
  | .join, .str [], [d] => match itemsOf M d with
    | some xs => (strsOf xs).bind fun ss => if sumLen ss ≤ 16777216 then some (.str ss.flatten, M) else none
    | none => none
  | _, _, _ => none

def isLst (M : Mem) (n : Nat) : Bool := match M[n]? with
  | some (.lst _) => true
  | _ => false
/-- of what kind the receiver must be -/
def meOk (m : Me) (o : D) (M : Mem) : Bool := match m, o with
  | .append, .obj n => isLst M n
  | .extend, .obj n => isLst M n
  | .pop, .obj n => isLst M n
  | .join, .str _ => true
  | _, _ => false

/-! ### what a program does -/
/-- what is walked: items as they stand, or a changeable list as it stands at each turn -/
inductive Wk where
  | seq (xs : List D)
  | live (n : Nat)
structure Sig where
  call : Nat → List D → Mem → Res D
  gl : Nat → Option D
def keyD : Key → D
  | .inl i => .int i
  | .inr s => .str s.cps.toList
def keysAt (d : Option D) (M : Mem) : Option Wk := match d with
  | some (.obj n) => match M[n]? with
    | some (.dL kvs) => some (.seq (kvs.map fun kv => keyD kv.1))
    | _ => none
  | _ => none
def lockAt (d : Option D) (M : Mem) : Option (Nat × Mem) := match d with
  | some (.obj n) => match M[n]? with
    | some (.dK kvs) => some (n, M.set n (.dL kvs))
    | _ => none
  | _ => none
def unlockAt (n : Nat) : SR → SR
  | .ok f env M => match M[n]? with
    | some (.dL kvs) => .ok f env (M.set n (.dK kvs))
    | _ => .bad
  | _ => .bad
def rngD (lo hi : Int) : List D := (List.range (hi - lo).toNat).map fun (k : Nat) => D.int (lo + (k : Int))
def big : Int := 4611686018427387904
def walkOf (d : D) (M : Mem) : Option Wk := match d with
  | .tup xs => some (.seq xs)
  | .rol xs => some (.seq xs)
  | .str s => some (.seq (s.map fun c => .str [c]))
  | .obj n => match M[n]? with
    | some (.lst _) => some (.live n)
    | _ => none
  | _ => none
mutual
def bindTg : Tg → D → Env → Option Env
  | .name i, d, env => some (env.set i (some d))
  | .tup ts, .tup ds, env => bindTgs ts ds env
  | .tup _, _, _ => none
def bindTgs : List Tg → List D → Env → Option Env
  | [], [], env => some env
  | t :: ts, d :: ds, env => (bindTg t d env).bind fun env' => bindTgs ts ds env'
  | _, _, _ => none
end
def wipeE (env : Env) : List Nat → Env
  | [] => env
  | v :: vs => (wipeE env vs).set v none

def appendAt (n : Nat) (y : D) (M : Mem) : Option Mem := match M[n]? with
  | some (.lst xs) => if xs.length < sizeLine then some (M.set n (.lst (xs ++ [y]))) else none
  | _ => none
/-- a comprehension's turns over items as they stand; n0: the new list -/
def lcSeq (turn : D → Mem → Res (Option D)) (n0 : Nat) : List D → Mem → Res Unit
  | [], M => .ok () M
  | d :: ds, M => (turn d M).bind fun o M' => match o with
    | some y => match appendAt n0 y M' with
      | some M'' => lcSeq turn n0 ds M''
      | none => .bad
    | none => lcSeq turn n0 ds M'
/-- .. over a changeable list: n its number, the first number the turns left, i the turn -/
def lcLive (turn : D → Mem → Res (Option D)) (n0 n : Nat) : Nat → Nat → Mem → Res Unit
  | 0, i, M => match M[n]? with
    | some (.lst xs) => if xs.length ≤ i then .ok () M else .bad
    | _ => .bad
  | r + 1, i, M => match M[n]? with
    | some (.lst xs) => match xs[i]? with
      | some d => (turn d M).bind fun o M' => match o with
        | some y => match appendAt n0 y M' with
          | some M'' => lcLive turn n0 n r (i + 1) M''
          | none => .bad
        | none => lcLive turn n0 n r (i + 1) M'
      | none => .bad
    | _ => .bad
def forSeq (body : D → Env → Mem → SR) : List D → Env → Mem → SR
  | [], env, M => .ok .next env M
  | d :: ds, env, M => match body d env M with
    | .ok .next env' M' => forSeq body ds env' M'
    | .ok .cont env' M' => forSeq body ds env' M'
    | .ok .brk env' M' => .ok .next env' M'
    | .ok (.ret v) env' M' => .ok (.ret v) env' M'
    | .exc x env' M' => .exc x env' M'
    | .bad => .bad
def forLive (body : D → Env → Mem → SR) (n : Nat) : Nat → Nat → Env → Mem → SR
  | 0, i, env, M => match M[n]? with
    | some (.lst xs) => if xs.length ≤ i then .ok .next env M else .bad
    | _ => .bad
  | r + 1, i, env, M => match M[n]? with
    | some (.lst xs) => match xs[i]? with
      | some d => match body d env M with
        | .ok .next env' M' => forLive body n r (i + 1) env' M'
        | .ok .cont env' M' => forLive body n r (i + 1) env' M'
        | .ok .brk env' M' => .ok .next env' M'
        | .ok (.ret v) env' M' => .ok (.ret v) env' M'
        | .exc x env' M' => .exc x env' M'
        | .bad => .bad
      | none => .bad
    | _ => .bad
def fuel : Nat := 4194304
def whileN (c : Env → Mem → Res Bool) (body : Env → Mem → SR) : Nat → Env → Mem → SR
  | 0, _, _ => .bad
  | k + 1, env, M => match c env M with
    | .ok true M1 => match body env M1 with
      | .ok .next env' M' => whileN c body k env' M'
      | .ok .cont env' M' => whileN c body k env' M'
      | .ok .brk env' M' => .ok .next env' M'
      | .ok (.ret v) env' M' => .ok (.ret v) env' M'
      | .exc x env' M' => .exc x env' M'
      | .bad => .bad
    | .ok false M1 => .ok .next env M1
    | .exc x M1 => .exc x env M1
    | .bad => .bad
/-- a list's length, where it is walked -/
def lenAt (M : Mem) (n : Nat) : Nat := match M[n]? with
  | some (.lst xs) => xs.length
  | _ => 0
/-! ### what is left is dropped -/
mutual
/-- no number of a changeable thing from n on -/
def bel (n : Nat) : D → Bool
  | .tup xs => bels n xs | .rol xs => bels n xs | .obj k => decide (k < n) | _ => true
def bels (n : Nat) : List D → Bool
  | [] => true
  | x :: xs => bel n x && bels n xs
end
def belM (n : Nat) : MO → Bool
  | .lst xs => bels n xs
  | .dK kvs => bels n (kvs.map (·.2))
  | .dT kvs => bels n (kvs.map (·.2))
  | .dL kvs => bels n (kvs.map (·.2))
/-- what is told of M within M' is as it was, or needs nothing new -/
def TidyOk (M M' : Mem) : Prop := M.length ≤ M'.length ∧ ∀ i, i < M.length → M'[i]? = M[i]? ∨ ∃ o, M'[i]? = some o ∧ belM M.length o = true
noncomputable def tidyM (M : Mem) (b : Bool) (M' : Mem) : Mem := @ite _ (b = true ∧ TidyOk M M') (Classical.propDecidable _) (M'.take M.length) M'
/-- a value and what is left; a new thing that is full of old ones comes first -/
noncomputable def tidyD (M : Mem) (d : D) (M' : Mem) : D × Mem := match d with
  | .obj k => if k < M.length then (d, tidyM M true M') else match M'[k]? with
    | some o => @ite _ (belM M.length o = true ∧ TidyOk M M') (Classical.propDecidable _) (.obj M.length, M'.take M.length ++ [o]) (d, M')
    | none => (d, M')
  | d => (d, tidyM M (bel M.length d) M')
noncomputable def tidyR (M : Mem) : Res D → Res D
  | .ok d M' => .ok (tidyD M d M').1 (tidyD M d M').2
  | .exc x M' => .exc x (tidyM M (bels M.length x.fs) M')
  | .bad => .bad
def belE (n : Nat) : Env → Bool
  | [] => true
  | none :: r => belE n r
  | some d :: r => bel n d && belE n r
def belF (n : Nat) : Fl → Bool
  | .ret d => bel n d
  | _ => true
noncomputable def tidyS (M : Mem) : SR → SR
  | .ok f env M' => .ok f env (tidyM M (belF M.length f && belE M.length env) M')
  | .exc x env M' => .exc x env (tidyM M (bels M.length x.fs && belE M.length env) M')
  | .bad => .bad
def opRev (d : D) (M : Mem) : Option (D × Mem) := match d with
  | .obj n => match M[n]? with
    | some (.lst xs) => some (.obj M.length, M ++ [MO.lst xs.reverse])
    | _ => none
  | _ => none
mutual
def evX : XE → List D → Option D
  | .int i, _ => some (.int i)
  | .str s, _ => some (.str s)
  | .bl b, _ => some (.bl b)
  | .non, _ => some .non
  | .fld j, fs => fs[j]?
  | .tup xs, fs => (evXs xs fs).bind fun ds => if ds.length ≤ sizeLine then some (.tup ds) else none
def evXs : Xs → List D → Option (List D)
  | .nil, _ => some []
  | .cons x xs, fs => (evX x fs).bind fun d => (evXs xs fs).map (d :: ·)
end
/-- what two classes have to do with each other: 0 is the base of all -/
def subC (i j : Nat) : Bool := decide (i = j) || decide (j = 0)
/-- what is caught -/
def catch_ (c : Nat) (os : List Nat) (i : Nat) (x : XE) : SR → SR
  | .exc e env M => if e.cls = c ∧ i < env.length then (match evX x e.fs with
      | some d => .ok (.ret d) env M
      | none => .bad) else if e.cls ∈ os then .exc e env M else .bad
  | r => r
noncomputable section
def noExc {α : Type} : Res α → Res α
  | .exc _ _ => .bad
  | r => r
section
variable (Γ : Sig)
mutual
def evE : E → Env → Mem → Res D
  | .var i, env, M => .ofV ((env[i]?).bind id) M
  | .int i, _, M => .ok (.int i) M
  | .str s, _, M => .ok (.str s) M
  | .bl b, _, M => .ok (.bl b) M
  | .non, _, M => .ok .non M
  | .glob g, _, M => .ofV (Γ.gl g) M
  | .tup es, env, M => (evEs es env M).bind fun ds M => if ds.length ≤ sizeLine then .ok (.tup ds) M else .bad
  | .lst es, env, M => (evEs es env M).bind fun ds M => if ds.length ≤ sizeLine then .ok (.obj M.length) (M ++ [MO.lst ds]) else .bad
  | .dict0, _, M => .ok (.obj M.length) (M ++ [MO.dK []])
  | .stuck, _, _ => .bad
  | .neg a, env, M => (evE a env M).bind fun d M => match d with
    | .int i => .ok (.int (-i)) M
    | _ => .bad
  | .bin o a b, env, M => (evE a env M).bind fun x M => (evE b env M).bind fun y M => .ofO (opBin o x y M)
  | .cmp o a b, env, M => (evE a env M).bind fun x M => (evE b env M).bind fun y M => .ofV ((opCmp o x y M).map D.bl) M
  | .chain o a b r, env, M => (evE a env M).bind fun x M => (evE b env M).bind fun y M => (Res.ofV (opCmp o x y M) M).bind fun k M => match k with
    | true => evCh r y env M
    | false => .ok (.bl false) M
  | .notE a, env, M => (evE a env M).bind fun x M => match x with
    | .bl b => .ok (.bl (!b)) M
    | _ => .bad
  | .andE a b, env, M => (evE a env M).bind fun x M => match x with
    | .bl true => evE b env M
    | .bl false => .ok (.bl false) M
    | _ => .bad
  | .orE a b, env, M => (evE a env M).bind fun x M => match x with
    | .bl true => .ok (.bl true) M
    | .bl false => evE b env M
    | _ => .bad
  | .ifE c a b, env, M => (evT c env M).bind fun k M => match k with
    | true => evE a env M
    | false => evE b env M
  | .ix a b, env, M => (evE a env M).bind fun x M => (evE b env M).bind fun y M => .ofV (opIx x y M) M
  | .slice a lo hi, env, M => (evE a env M).bind fun x M => (evO lo env M).bind fun l M => (evO hi env M).bind fun h M => .ofO (opSlice x l h M)
  | .call f es, env, M => (evEs es env M).bind fun ds M => Γ.call f ds M
  | .blt b es, env, M => (evEs es env M).bind fun ds M => .ofO (opBi b ds M)
  | .meth m o es, env, M => (evE o env M).bind fun x M => match meOk m x M with
    | true => (evEs es env M).bind fun ds M => .ofO (opMe m x ds M)
    | false => .bad
  | .lc own tg it c e, env, M => (evIt it env M).bind fun wk M =>
      let turn : D → Mem → Res (Option D) := fun d M => match bindTg tg d (wipeE env own) with
        | some env' => noExc ((evOT c env' M).bind fun k M => match k with
          | true => (evE e env' M).bind fun y M => .ok (some y) M
          | false => .ok none M)
        | none => .bad
      (match wk with
        | .seq xs => lcSeq turn M.length xs (M ++ [MO.lst []])
        | .live n => lcLive turn M.length n (lenAt M n) 0 (M ++ [MO.lst []])).bind fun _ M' => .ok (.obj M.length) M'
  | .rev a, env, M => (evE a env M).bind fun x M => .ofO (opRev x M)
  | .tidy e, env, M => tidyR M (evE e env M)
def evCh : Ch → D → Env → Mem → Res D
  | .last o a, x, env, M => (evE a env M).bind fun y M => .ofV ((opCmp o x y M).map D.bl) M
  | .more o a r, x, env, M => (evE a env M).bind fun y M => (Res.ofV (opCmp o x y M) M).bind fun k M => match k with
    | true => evCh r y env M
    | false => .ok (.bl false) M
def evEs : Es → Env → Mem → Res (List D)
  | .nil, _, M => .ok [] M
  | .cons e es, env, M => (evE e env M).bind fun d M => (evEs es env M).bind fun ds M => .ok (d :: ds) M
def evO : OE → Env → Mem → Res (Option Int)
  | .none, _, M => .ok none M
  | .some e, env, M => (evE e env M).bind fun d M => match d with
    | .int i => .ok (some i) M
    | _ => .bad
def evT : T → Env → Mem → Res Bool
  | .tr e, env, M => (evE e env M).bind fun d M => .ofV (truth d M) M
  | .cmp o a b, env, M => (evE a env M).bind fun x M => (evE b env M).bind fun y M => .ofV (opCmp o x y M) M
  | .chain o a b r, env, M => (evE a env M).bind fun x M => (evE b env M).bind fun y M => (Res.ofV (opCmp o x y M) M).bind fun k M => match k with
    | true => (evCh r y env M).bind fun d M => match d with
      | .bl k => .ok k M
      | _ => .bad
    | false => .ok false M
  | .and a b, env, M => (evT a env M).bind fun k M => match k with
    | true => evT b env M
    | false => .ok false M
  | .or a b, env, M => (evT a env M).bind fun k M => match k with
    | true => .ok true M
    | false => evT b env M
  | .not a, env, M => (evT a env M).bind fun k M => .ok (!k) M
def evOT : OT → Env → Mem → Res Bool
  | .none, _, M => .ok true M
  | .some c, env, M => evT c env M
def evIt : Wi → Env → Mem → Res Wk
  | .seq e, env, M => (evE e env M).bind fun d M => .ofV (walkOf d M) M
  | .range1 a, env, M => (evE a env M).bind fun x M => match x with
    | .int j => if -big ≤ j ∧ j < big then .ok (.seq (rngD 0 j)) M else .bad
    | _ => .bad
  | .range2 a b, env, M => (evE a env M).bind fun x M => (evE b env M).bind fun y M => match x, y with
    | .int i, .int j => if -big ≤ i ∧ i < big ∧ -big ≤ j ∧ j < big then .ok (.seq (rngD i j)) M else .bad
    | _, _ => .bad
  | .keys i, env, M => .ofV (keysAt ((env[i]?).bind id) M) M
end
def Res.st {α : Type} (r : Res α) (env : Env) (k : α → Mem → SR) : SR := match r with
  | .ok a M => k a M
  | .exc x M => .exc x env M
  | .bad => .bad
mutual
def evS : S → Env → Mem → SR
  | .set tg e, env, M => Res.st (evE Γ e env M) env fun d M => match bindTg tg d env with
    | some env' => .ok .next env' M
    | none => .bad
  | .setix o i e, env, M => Res.st (evE Γ e env M) env fun v M => Res.st (evE Γ o env M) env fun x M => Res.st (evE Γ i env M) env fun y M => match opSetIx x y v M with
    | some M' => .ok .next env M'
    | none => .bad
  | .aug i o e, env, M => match (env[i]?).bind id with
    | some x => Res.st (evE Γ e env M) env fun y M => match opAug o x y with
      | some z => .ok .next (env.set i (some z)) M
      | none => .bad
    | none => .bad
  | .expr e, env, M => Res.st (evE Γ e env M) env fun _ M => .ok .next env M
  | .ret e, env, M => Res.st (evE Γ e env M) env fun d M => .ok (.ret d) env M
  | .ret0, env, M => .ok (.ret .non) env M
  | .ifS c a b, env, M => Res.st (evT Γ c env M) env fun k M => match k with
    | true => evSs a env M
    | false => evSs b env M
  | .forS tg it b, env, M => Res.st (evIt Γ it env M) env fun wk M =>
      let body : D → Env → Mem → SR := fun d env M => match bindTg tg d env with
        | some env' => evSs b env' M
        | none => .bad
      match wk with
        | .seq xs => forSeq body xs env M
        | .live n => forLive body n (lenAt M n) 0 env M
  | .whileS c b, env, M => whileN (evT Γ c) (evSs b) fuel env M
  | .brk, env, M => .ok .brk env M
  | .cont, env, M => .ok .cont env M
  | .pass, env, M => .ok .next env M
  | .stuck, _, _ => .bad
  | .tidy s, env, M => tidyS M (evS s env M)
  | .lock i s, env, M => match lockAt ((env[i]?).bind id) M with
    | some (n, M1) => unlockAt n (evS s env M1)
    | none => .bad
  | .raise0 c, env, M => .exc ⟨c, []⟩ env M
  | .raise c a b, env, M => Res.st (evE Γ a env M) env fun d M => Res.st (evE Γ b env M) env fun d2 M => .exc ⟨c, [d, d2]⟩ env M
  | .tryAs b c os i x, env, M => catch_ c os i x (evSs b env M)
def evSs : Ss → Env → Mem → SR
  | .nil, env, M => .ok .next env M
  | .cons s ss, env, M => match evS s env M with
    | .ok .next env' M' => evSs ss env' M'
    | r => r
end
end
/-- a def: how many parameters, how many names in all, the body -/
structure Fn where
  np : Nat
  nn : Nat
  body : Ss
def fnRes : SR → Res D
  | .ok .next _ M => .ok .non M
  | .ok (.ret d) _ M => .ok d M
  | .ok _ _ _ => .bad
  | .exc x _ M => .exc x M
  | .bad => .bad
def runFn (Γ : Sig) (f : Fn) (ds : List D) (M : Mem) : Res D :=
  if ds.length = f.np then tidyR M (fnRes (evSs Γ f.body (ds.map some ++ List.replicate (f.nn - ds.length) none) M)) else .bad
structure Prog where
  fn : Nat → Option Fn
  gl : Nat → Option D
def run (p : Prog) : Nat → Nat → List D → Mem → Res D
  | 0, _, _, _ => .bad
  | k + 1, f, ds, M => match p.fn f with
    | some fn => runFn ⟨run p k, p.gl⟩ fn ds M
    | none => .bad
end
end Py

set_option Elab.async false
set_option autoImplicit false
set_option linter.all false
set_option maxRecDepth 100000
set_option maxHeartbeats 4000000
/-! E3: the operations are what the machine does. -/
namespace Py
open PySem PySem.Spec PyProof.Rows L2

def BOp.py : BOp → Operator
  | .add => .Add | .sub => .Sub | .mul => .Mult | .fdiv => .FloorDiv | .mod => .Mod | .pow => .Pow
def COp.py : COp → CmpOp
  | .eq => .Eq | .ne => .NotEq | .lt => .Lt | .le => .LtE | .gt => .Gt | .ge => .GtE | .isin => .In | .notin => .NotIn | .is => .Is | .isnot => .IsNot

section
variable {K : Fr} {H : Hp} {ι : List Addr} {M : Mem}
mutual
theorem RV.dp : ∀ (d : D) (v : V), RV K H ι d v → flat d = true → Dp K H v (py d)
  | .non, _, h, _ => by cases h; exact .non
  | .bl b, _, h, _ => by cases h; exact .bl b
  | .int i, _, h, _ => by cases h; exact .int i
  | .str s, _, h, _ => by cases h; exact .str _
  | .tup ds, _, h, f => by
    cases h with
    | tup h1 h2 => exact .tup h1 (RVs.dp ds _ h2 (by simpa [flat] using f))
  | .rol ds, _, h, f => by
    cases h with
    | rol h1 h2 => exact .lst h1.seq (RVs.dp ds _ h2 (by simpa [flat] using f))
  | .obj n, _, h, f => by simp [flat] at f
theorem RVs.dp : ∀ (ds : List D) (vs : List V), RVs K H ι ds vs → flats ds = true → DpAll K H vs (pys ds)
  | [], _, h, _ => by cases h; exact .nil
  | d :: ds, _, h, f => by
    simp only [flats, Bool.and_eq_true] at f
    cases h with
    | cons h1 h2 => exact .cons (RV.dp d _ h1 f.1) (RVs.dp ds _ h2 f.2)
end
theorem pyM_dp (hm : RM K H ι M) {d : D} {v : V} {x : PyData} (r : RV K H ι d v) (e : pyM M d = some x) : Dp K H v x := by
  have base : ∀ d, RV K H ι d v → (if flat d = true then some (py d) else none) = some x → Dp K H v x := fun d r e => by
    split at e
    · rename_i f; cases e; exact RV.dp d v r f
    · cases e
  cases d with
  | obj n =>
    simp only [pyM] at e
    split at e
    · rename_i xs hx
      split at e
      · rename_i f
        cases e
        obtain ⟨a, vs, rfl, _, hH, hr⟩ := hm.lst hx r
        exact .lst (SqL.of hH) (RVs.dp xs vs hr f)
      · cases e
    · cases e
  | _ => exact base _ r (by simpa only [pyM] using e)
end

section
variable {X : Cx}
theorem okPy_lay {d : PyData} (h : okPy d = true) : d.canLay0 = true := (Bool.and_eq_true_iff.mp h).1
theorem okPy_dep {d : PyData} (h : okPy d = true) : d.depth ≤ 150 := of_decide_eq_true (Bool.and_eq_true_iff.mp h).2
theorem room150 {k : Nat} {A : Around} (r : Room k A) : A.units + 160 < cLine := by have := r.un; omega
theorem op_eqP {k : Nat} (hr : Room k X.A) : OpR X (compareOp .Eq) (fun x y H Q => ∃ d e, Dp X.K H x d ∧ Dp X.K H y e ∧ okPy d = true ∧ okPy e = true ∧ Q (.bl (PyData.eqv d e)) H) := by
  intro pins s σ H x y v u Q I rx ry h
  obtain ⟨d, e, hd, he, sd, se, q⟩ := h
  obtain ⟨as, r1⟩ := Dp.reads I d x v hd rx
  obtain ⟨bs, r2⟩ := Dp.reads I e y u he ry
  have h1 := okPy_dep sd
  have h2 : min d.depth e.depth ≤ d.depth := Nat.min_le_left _ _
  have h3 := room150 hr
  exact SeqAt.compareEq_reads r1 r2 (okPy_lay sd) (okPy_lay se) (by omega) ⟨.bl _, H, I, rfl, q⟩
theorem op_neP {k : Nat} (hr : Room k X.A) : OpR X (compareOp .NotEq) (fun x y H Q => ∃ d e, Dp X.K H x d ∧ Dp X.K H y e ∧ okPy d = true ∧ okPy e = true ∧ Q (.bl (!PyData.eqv d e)) H) := by
  intro pins s σ H x y v u Q I rx ry h
  obtain ⟨d, e, hd, he, sd, se, q⟩ := h
  obtain ⟨as, r1⟩ := Dp.reads I d x v hd rx
  obtain ⟨bs, r2⟩ := Dp.reads I e y u he ry
  have h1 := okPy_dep sd
  have h2 : min d.depth e.depth ≤ d.depth := Nat.min_le_left _ _
  have h3 := room150 hr
  exact SeqAt.compareNe_reads r1 r2 (okPy_lay sd) (okPy_lay se) (by omega) ⟨.bl _, H, I, rfl, q⟩
theorem op_inP {k : Nat} (hr : Room k X.A) : OpR X (compareOp .In) (fun x y H Q => ∃ d ds, Dp X.K H x d ∧ (Dp X.K H y (.list ds) ∨ Dp X.K H y (.tuple ds)) ∧ okPy d = true ∧ PyData.canLayAll0 ds = true ∧ Q (.bl (ds.any fun z => PyData.eqv z d)) H) := by
  intro pins s σ H x y v u Q I rx ry h
  obtain ⟨d, ds, hd, he, sd, se, q⟩ := h
  obtain ⟨as, r1⟩ := Dp.reads I d x v hd rx
  have h1 := okPy_dep sd
  have h2 : min (PyData.depthAll ds) d.depth ≤ d.depth := Nat.min_le_right _ _
  have h3 := room150 hr
  rcases he with he | he
  · obtain ⟨bs, r2⟩ := Dp.reads I (.list ds) y u he ry
    exact SeqAt.in_list_reads r2 r1 se (okPy_lay sd) (by omega) ⟨.bl _, H, I, rfl, q⟩
  · obtain ⟨bs, r2⟩ := Dp.reads I (.tuple ds) y u he ry
    exact SeqAt.in_tuple_reads r2 r1 se (okPy_lay sd) (by omega) ⟨.bl _, H, I, rfl, q⟩
theorem op_notInP {k : Nat} (hr : Room k X.A) : OpR X (compareOp .NotIn) (fun x y H Q => ∃ d ds, Dp X.K H x d ∧ (Dp X.K H y (.list ds) ∨ Dp X.K H y (.tuple ds)) ∧ okPy d = true ∧ PyData.canLayAll0 ds = true ∧ Q (.bl (!ds.any fun z => PyData.eqv z d)) H) := by
  intro pins s σ H x y v u Q I rx ry h
  obtain ⟨d, ds, hd, he, sd, se, q⟩ := h
  obtain ⟨as, r1⟩ := Dp.reads I d x v hd rx
  have h1 := okPy_dep sd
  have h2 : min (PyData.depthAll ds) d.depth ≤ d.depth := Nat.min_le_right _ _
  have h3 := room150 hr
  rcases he with he | he
  · obtain ⟨bs, r2⟩ := Dp.reads I (.list ds) y u he ry
    exact SeqAt.notIn_list_reads r2 r1 se (okPy_lay sd) (by omega) ⟨.bl _, H, I, rfl, q⟩
  · obtain ⟨bs, r2⟩ := Dp.reads I (.tuple ds) y u he ry
    exact SeqAt.notIn_tuple_reads r2 r1 se (okPy_lay sd) (by omega) ⟨.bl _, H, I, rfl, q⟩
end

/-! ### operators by data -/
def rBin (K : Fr) (g : D → D → Mem → Option (D × Mem)) : R2 := fun x y H Q => ∃ ι M dx dy d M', RM K H ι M ∧ RV K H ι dx x ∧ RV K H ι dy y ∧ g dx dy M = some (d, M') ∧
  ∀ H' ι' v, Ext H ι H' ι' → RM K H' ι' M' → RV K H' ι' d v → Q v H'
def rCmp (K : Fr) (g : D → D → Mem → Option Bool) : R2 := fun x y H Q => ∃ ι M dx dy b, RM K H ι M ∧ RV K H ι dx x ∧ RV K H ι dy y ∧ g dx dy M = some b ∧ Q (.bl b) H
theorem keyed_valV {K : Fr} {H : Hp} {ι : List Addr} {k : Key} : ∀ {kvs : List (Key × D)} {vs : List (Key × V)}, RKV K H ι kvs vs →
    (∀ d, keyed k kvs = some d → ∃ v, valV vs k = some v ∧ RV K H ι d v) ∧ (keyed k kvs = none → valV vs k = none)
  | [], [], _ => ⟨fun d e => (by cases e), fun _ => rfl⟩
  | (k', d') :: r, (k2, v2) :: vs, .cons ⟨e1, e2⟩ h2 => by
    have e1 : k' = k2 := e1
    have e2 : RV K H ι d' v2 := e2
    subst e1
    have ih := keyed_valV (k := k) (kvs := r) (vs := vs) h2
    by_cases e : k' = k
    · refine ⟨fun d z => ⟨v2, valV_pos e, ?_⟩, fun z => ?_⟩
      · simp [keyed, e] at z; subst z; exact e2
      · simp [keyed, e] at z
    · refine ⟨fun d z => ?_, fun z => ?_⟩
      · simp [keyed, e] at z
        obtain ⟨v, a, b⟩ := ih.1 d z
        exact ⟨v, by rw [valV_neg e]; exact a, b⟩
      · simp [keyed, e] at z
        rw [valV_neg e]; exact ih.2 z
theorem keyOf_kV {K : Fr} {H : Hp} {ι : List Addr} {d : D} {v : V} {k : Key} (r : RV K H ι d v) (e : keyOf d = some k) : v = kV k := by
  cases r <;> simp [keyOf] at e <;> subst e <;> rfl
theorem RKV.any {K : Fr} {H : Hp} {ι : List Addr} {k : Key} : ∀ {kvs : List (Key × D)} {vs : List (Key × V)}, RKV K H ι kvs vs → (kvs.any fun kv => decide (kv.1 = k)) = (vs.any fun kv => decide (kv.1 = k))
  | [], [], _ => rfl
  | p :: r, q :: vs, .cons h1 h2 => by
    have e1 : p.1 = q.1 := h1.1
    rw [List.any_cons, List.any_cons, RKV.any (kvs := r) (vs := vs) h2, e1]
theorem RKV.put {K : Fr} {H : Hp} {ι : List Addr} {k : Key} {d : D} {v : V} (rv : RV K H ι d v) : ∀ {kvs : List (Key × D)} {vs : List (Key × V)}, RKV K H ι kvs vs →
    RKV K H ι (kvs.map fun kv => if kv.1 = k then (kv.1, d) else kv) (vs.map fun kv => if kv.1 = k then (kv.1, v) else kv)
  | [], [], _ => .nil
  | p :: r, q :: vs, .cons h1 h2 => by
    have e1 : p.1 = q.1 := h1.1
    have e2 : RV K H ι p.2 q.2 := h1.2
    refine .cons ?_ (RKV.put rv (kvs := r) (vs := vs) h2)
    by_cases e : p.1 = k
    · dsimp only; rw [if_pos e, if_pos (e1 ▸ e)]; exact ⟨e1, rv⟩
    · dsimp only; rw [if_neg e, if_neg (e1 ▸ e)]; exact ⟨e1, e2⟩
theorem RKV.app {K : Fr} {H : Hp} {ι : List Addr} {k : Key} {d : D} {v : V} (rv : RV K H ι d v) : ∀ {kvs : List (Key × D)} {vs : List (Key × V)}, RKV K H ι kvs vs → RKV K H ι (kvs ++ [(k, d)]) (vs ++ [(k, v)])
  | [], [], _ => .cons ⟨rfl, rv⟩ .nil
  | p :: r, q :: vs, .cons h1 h2 => .cons h1 (RKV.app rv (kvs := r) (vs := vs) h2)
theorem putKey_putK {K : Fr} {H : Hp} {ι : List Addr} {k : Key} {d : D} {v : V} (rv : RV K H ι d v) {kvs : List (Key × D)} {vs : List (Key × V)} (h : RKV K H ι kvs vs) : RKV K H ι (putKey k d kvs) (putK vs k v) := by
  unfold putKey putK
  rw [RKV.any h]
  split
  · exact RKV.put rv h
  · exact RKV.app rv h
theorem RKV.length {K : Fr} {H : Hp} {ι : List Addr} {κ : Type} : ∀ {kvs : List (κ × D)} {vs : List (κ × V)}, RKV K H ι kvs vs → kvs.length = vs.length
  | [], [], _ => rfl
  | p :: r, q :: vs, .cons h1 h2 => by rw [List.length_cons, List.length_cons, RKV.length (kvs := r) (vs := vs) h2]

section
variable {K : Fr} {H : Hp} {ι : List Addr} {M : Mem} {X : Cx}
theorem RM.dL (h : RM K H ι M) {n : Nat} {ds : List (Key × D)} {v : V} (e : M[n]? = some (.dL ds)) (r : RV K H ι (.obj n) v) : ∃ a od vs, v = .ref a ∧ ι[n]? = some a ∧ H a = some (.frz od (.dK vs)) ∧ RKV K H ι ds vs := by
  obtain ⟨a, o, h1, h2, od, vs, rfl, h3⟩ := h.at_ n _ e
  cases r with
  | obj h4 =>
    rw [h1] at h4; cases h4
    exact ⟨a, od, vs, rfl, h1, h2, h3⟩
theorem dget_rd {H : Hp} {a : Addr} {kvs : List (Key × V)} {k : Key} (e : Rd H a (.dK kvs)) : DGet H a (kV k) (valV kvs k) := .inl ⟨kvs, k, e, rfl, rfl⟩
theorem RM.dK (h : RM K H ι M) {n : Nat} {ds : List (Key × D)} {v : V} (e : M[n]? = some (.dK ds)) (r : RV K H ι (.obj n) v) : ∃ a vs, v = .ref a ∧ ι[n]? = some a ∧ H a = some (.dK vs) ∧ RKV K H ι ds vs := by
  obtain ⟨a, o, h1, h2, vs, rfl, h3⟩ := h.at_ n _ e
  cases r with
  | obj h4 =>
    rw [h1] at h4; cases h4
    exact ⟨a, vs, rfl, h1, h2, h3⟩
theorem opEq_dp (hm : RM K H ι M) {a b : D} {x y : V} {c : Bool} (ra : RV K H ι a x) (rb : RV K H ι b y) (e : opEq M a b = some c) :
    (scal x y = true ∧ c = decide (x = y)) ∨ ∃ d f, Dp K H x d ∧ Dp K H y f ∧ okPy d = true ∧ okPy f = true ∧ c = PyData.eqv d f := by
  unfold opEq at e
  split at e
  · cases ra; cases rb; cases e; exact .inl ⟨rfl, dec_int.symm⟩
  · cases ra; cases rb; cases e; exact .inl ⟨rfl, by simp [sv]; rw [Bool.beq_eq_decide_eq]⟩
  · cases ra; cases rb; cases e; exact .inl ⟨rfl, dec_bl.symm⟩
  · cases ra; cases rb; cases e; exact .inl ⟨rfl, rfl⟩
  · split at e
    · rename_i p q hp hq
      split at e
      · rename_i h
        rw [Bool.and_eq_true] at h
        cases e
        exact .inr ⟨p, q, pyM_dp hm ra hp, pyM_dp hm rb hq, h.1, h.2, rfl⟩
      · cases e
    · cases e
theorem opIn_dp (hm : RM K H ι M) {a b : D} {x y : V} {c : Bool} (ra : RV K H ι a x) (rb : RV K H ι b y) (e : opIn M a b = some c) :
    (∃ d ds, Dp K H x d ∧ (Dp K H y (.list ds) ∨ Dp K H y (.tuple ds)) ∧ okPy d = true ∧ PyData.canLayAll0 ds = true ∧ c = ds.any fun z => PyData.eqv z d) ∨
      ∃ p o, y = .ref p ∧ DGet H p x o ∧ c = o.isSome := by
  unfold opIn at e
  split at e
  · rename_i n
    split at e
    · rename_i xs hx
      obtain ⟨p, vs, rfl, _, hH, hr⟩ := hm.lst hx rb
      split at e
      · rename_i h
        simp only [Bool.and_eq_true] at h
        cases e
        exact .inl ⟨_, _, RV.dp _ _ ra h.1.1.2, .inl (.lst (SqL.of hH) (RVs.dp _ _ hr h.1.1.1)), h.1.2, h.2, rfl⟩
      · cases e
    · rename_i kvs hx
      obtain ⟨p, vs, rfl, _, hH, hr⟩ := hm.dK hx rb
      split at e
      · rename_i k hk
        cases e
        refine .inr ⟨p, valV vs k, rfl, ?_, ?_⟩
        · rw [keyOf_kV ra hk]; exact DGet.k hH
        · have h := keyed_valV (k := k) hr
          cases z : keyed k kvs with
          | none => rw [h.2 z]; rfl
          | some d => obtain ⟨v, q, _⟩ := h.1 d z; rw [q]; rfl
      · cases e
    · rename_i kvs hx
      obtain ⟨p, od, vs, rfl, _, hH, hr⟩ := hm.dL hx rb
      split at e
      · rename_i k hk
        cases e
        refine .inr ⟨p, valV vs k, rfl, ?_, ?_⟩
        · rw [keyOf_kV ra hk]; exact dget_rd (.inr ⟨od, hH⟩)
        · have h := keyed_valV (k := k) hr
          cases z : keyed k kvs with
          | none => rw [h.2 z]; rfl
          | some d => obtain ⟨v, q, _⟩ := h.1 d z; rw [q]; rfl
      · cases e
    · cases e
  · rename_i xs
    cases rb with
    | tup h1 h2 =>
      split at e
      · rename_i h
        simp only [Bool.and_eq_true] at h
        cases e
        exact .inl ⟨_, _, RV.dp _ _ ra h.1.1.2, .inr (.tup h1 (RVs.dp _ _ h2 h.1.1.1)), h.1.2, h.2, rfl⟩
      · cases e
  · cases e
theorem op_cmp_ok {k : Nat} (hr : Room k X.A) (o : COp) : OpR X (compareOp o.py) (rCmp X.K (opCmp o)) := by
  intro pins s σ H x y v u Q I rx ry ⟨ι, M, dx, dy, b, hm, r1, r2, hg, q⟩
  have hu : X.A.units + 1 < cLine := by have := room150 hr; omega
  cases o with
  | eq =>
    have hg : opEq M dx dy = some b := hg
    rcases opEq_dp hm r1 r2 hg with ⟨sc, rfl⟩ | ⟨d, f, h1, h2, h3, h4, rfl⟩
    · exact op_eq pins s σ H x y v u Q I rx ry ⟨sc, q⟩
    · exact op_eqP hr pins s σ H x y v u Q I rx ry ⟨d, f, h1, h2, h3, h4, q⟩
  | ne =>
    obtain ⟨c, hc, rfl⟩ := Option.map_eq_some_iff.mp (show (opEq M dx dy).map (!·) = some b from hg)
    rcases opEq_dp hm r1 r2 hc with ⟨sc, rfl⟩ | ⟨d, f, h1, h2, h3, h4, rfl⟩
    · exact op_ne pins s σ H x y v u Q I rx ry ⟨sc, q⟩
    · exact op_neP hr pins s σ H x y v u Q I rx ry ⟨d, f, h1, h2, h3, h4, q⟩
  | isin =>
    have hg : opIn M dx dy = some b := hg
    rcases opIn_dp hm r1 r2 hg with ⟨d, ds, h1, h2, h3, h4, rfl⟩ | ⟨p, o, rfl, h1, rfl⟩
    · exact op_inP hr pins s σ H x y v u Q I rx ry ⟨d, ds, h1, h2, h3, h4, q⟩
    · cases ry
      exact d_in hu I h1 rx fun s3 I3 => ⟨.bl _, H, I3, rfl, q⟩
  | notin =>
    obtain ⟨c, hc, rfl⟩ := Option.map_eq_some_iff.mp (show (opIn M dx dy).map (!·) = some b from hg)
    rcases opIn_dp hm r1 r2 hc with ⟨d, ds, h1, h2, h3, h4, rfl⟩ | ⟨p, o, rfl, h1, rfl⟩
    · exact op_notInP hr pins s σ H x y v u Q I rx ry ⟨d, ds, h1, h2, h3, h4, q⟩
    · cases ry
      exact d_notIn hu I h1 rx fun s3 I3 => ⟨.bl _, H, I3, rfl, q⟩
  | lt => 
    cases r1 <;> cases r2 <;> simp [opCmp] at hg <;> subst hg
    · exact op_lt pins s σ H _ _ v u Q I rx ry ⟨_, _, rfl, rfl, q⟩
    · exact op_lt_str pins s σ H _ _ v u Q I rx ry ⟨_, _, rfl, rfl, by simpa using q⟩
  | le =>
    cases r1 <;> cases r2 <;> simp [opCmp] at hg <;> subst hg
    · exact op_le pins s σ H _ _ v u Q I rx ry ⟨_, _, rfl, rfl, q⟩
    · exact op_le_str pins s σ H _ _ v u Q I rx ry ⟨_, _, rfl, rfl, by simpa only [lexLe, decide_not] using q⟩
  | gt =>
    cases r1 <;> cases r2 <;> simp [opCmp] at hg <;> subst hg
    exact op_gt pins s σ H _ _ v u Q I rx ry ⟨_, _, rfl, rfl, q⟩
  | ge =>
    cases r1 <;> cases r2 <;> simp [opCmp] at hg <;> subst hg
    exact op_ge pins s σ H _ _ v u Q I rx ry ⟨_, _, rfl, rfl, q⟩
  | is =>
    cases r1 <;> cases r2 <;> simp [opCmp] at hg <;> subst hg <;> first
      | exact op_isN pins s σ H _ _ v u Q I rx ry ⟨rfl, by simpa using q⟩
      | (cases rx; cases ry; exact wpAny_is_plain rfl (fin_bl I q rfl))
      | (cases ry; obtain ⟨t, rfl⟩ := rx; exact wpAny_is_plain rfl (fin_bl I q rfl))
      | (cases rx; cases ry; exact wpAny_is_plain rfl (fin_bl I q (by rename_i a b; cases a <;> cases b <;> rfl)))
  | isnot =>
    cases r1 <;> cases r2 <;> simp [opCmp] at hg <;> first
      | (subst hg; exact op_notN pins s σ H _ _ v u Q I rx ry ⟨rfl, by simpa using q⟩)
      | (subst hg; cases rx; cases ry; exact wpAny_isNot_plain rfl (fin_bl I q rfl))
      | (subst hg; cases ry; obtain ⟨t, rfl⟩ := rx; exact wpAny_isNot_plain rfl (fin_bl I q rfl))
      | (cases rx; cases ry; exact wpAny_isNot_plain rfl (fin_bl I q (by rename_i a b'; cases a <;> cases b' <;> cases b <;> first | rfl | cases hg)))
end
end Py

set_option Elab.async false
set_option autoImplicit false
set_option linter.all false
set_option maxRecDepth 100000
set_option maxHeartbeats 4000000
/-! E4: more operations. -/
namespace Py
open PySem PySem.Spec PyProof.Rows L2
section
variable {K : Fr} {H : Hp} {ι : List Addr} {M : Mem} {X : Cx}
theorem RVs.flatten {ds : List D} {vs : List V} (h : RVs K H ι ds vs) : ∀ k : Nat, RVs K H ι (List.replicate k ds).flatten (List.replicate k vs).flatten
  | 0 => .nil
  | k + 1 => by
    rw [List.replicate_succ, List.replicate_succ, List.flatten_cons, List.flatten_cons]
    exact h.append (RVs.flatten h k)
/-- what follows an operation that leaves the memory as it is -/
def Fol (K : Fr) (H : Hp) (ι : List Addr) (M' : Mem) (d : D) (Q : VK) : Prop := ∀ H' ι' v, Ext H ι H' ι' → RM K H' ι' M' → RV K H' ι' d v → Q v H'
theorem Fol.here {d : D} {v : V} {Q : VK} (q : Fol K H ι M d Q) (hm : RM K H ι M) (r : RV K H ι d v) : Q v H := q H ι v (Ext.refl H ι) hm r
theorem Fol.tup {ds : List D} {vs : List V} {Q : VK} (q : Fol K H ι M (.tup ds) Q) (hm : RM K H ι M) (r : RVs K H ι ds vs) {p : Addr} (n : H p = none) : Q (.ref p) (upd H p (.tup vs)) := by
  have e : Ext H ι (upd H p (.tup vs)) ι := ⟨Le.new n, List.prefix_refl _⟩
  exact q _ ι _ e (hm.other n) (.tup (SqT.of upd_same) (r.up e))
theorem Fol.lst {ds : List D} {vs : List V} {Q : VK} (q : Fol K H ι (M ++ [MO.lst ds]) (.obj M.length) Q) (hm : RM K H ι M) (r : RVs K H ι ds vs) {p : Addr} (n : H p = none) : Q (.ref p) (upd H p (.lst vs)) := by
  obtain ⟨e, m, l⟩ := hm.new (o := .lst vs) (m := .lst ds) n ⟨vs, rfl, r⟩
  exact q _ _ _ e m (.obj l)
theorem str_app (a b : List Nat) : (⟨a.toArray⟩ : Str) ++ (⟨b.toArray⟩ : Str) = ⟨(a ++ b).toArray⟩ := by
  show Str.mk (a.toArray ++ b.toArray) = _
  simp
theorem fold_rep (a : List Nat) : ∀ (m : Nat) (acc : Array Nat), (List.replicate m a.toArray).foldl (· ++ ·) acc = acc ++ ((List.replicate m a).flatten).toArray
  | 0, acc => by simp
  | m + 1, acc => by
    rw [List.replicate_succ, List.replicate_succ, List.foldl_cons, fold_rep a m, List.flatten_cons]
    simp
theorem mul_str (a : List Nat) (k : Int) : Txt.mul ⟨a.toArray⟩ k = (⟨((List.replicate k.toNat a).flatten).toArray⟩ : Str) := by
  unfold Txt.mul
  by_cases h1 : k < 1
  · rw [if_pos h1, show k.toNat = 0 by omega]; rfl
  · rw [if_neg h1]
    by_cases h2 : (k == 1 || (⟨a.toArray⟩ : Str).length == 0) = true
    · rw [if_pos h2]
      rw [Bool.or_eq_true] at h2
      rcases h2 with h2 | h2
      · have : k = 1 := by simpa using h2
        subst this
        simp
      · have : a = [] := by
          have : a.toArray.size = 0 := eq_of_beq h2
          simpa using this
        subst this
        simp
    · rw [if_neg h2, fold_rep a k.toNat #[]]
      simp
theorem mulOk_str {a : List Nat} {k : Int} (h1 : a.length ≤ 1000) (h2 : k ≤ 1000) (h3 : -1000 ≤ k) : MulOk ⟨a.toArray⟩ k := by
  have hl : (⟨a.toArray⟩ : Str).length = a.length := by show a.toArray.size = _; simp
  refine ⟨?_, fun hk _ => ?_, fun hk _ => ?_⟩
  · rw [decide_eq_false (by omega), decide_eq_false (by omega)]; rfl
  · rw [hl]
    have : (1000 : Int) ≤ (2 ^ 63 - 1) / k := by
      refine Int.le_ediv_of_mul_le (by omega) ?_
      omega
    omega
  · rw [hl]
    have : a.length * k.toNat ≤ 1000 * 1000 := Nat.mul_le_mul h1 (by omega)
    have hs : sizeLine = 16777216 := rfl
    show decide (a.length * k.toNat > sizeLine) = false
    exact decide_eq_false (by omega)
theorem op_bin_ok (o : BOp) : OpR X (binaryOp o.py) (rBin X.K (opBin o)) := by
  intro pins s σ H x y v u Q I rx ry ⟨ι, M, dx, dy, d, M', hm, r1, r2, hg, q⟩
  have q : Fol X.K H ι M' d Q := q
  cases o with
  | add =>
    unfold opBin at hg
    split at hg
    all_goals first | (rename_i e; cases e; done) | skip
    all_goals first | (cases hg; done) | skip
    · cases r1; cases r2; cases hg
      exact op_add pins s σ H _ _ v u Q I rx ry ⟨_, _, rfl, rfl, q.here hm (.int _)⟩
    · cases r1; cases r2
      split at hg
      · rename_i h
        cases hg
        refine op_add_str pins s σ H _ _ v u Q I rx ry ⟨_, _, rfl, rfl, by simpa [Str.length] using h, ?_⟩
        rw [str_app]
        exact q.here hm (.str _)
      · cases hg
    · cases r1 with | tup a1 b1 =>
      cases r2 with | tup a2 b2 =>
      split at hg
      · rename_i h
        cases hg
        refine op_catA pins s σ H _ _ v u Q I rx ry ⟨_, _, _, _, rfl, rfl, a1, a2, by rw [← b1.length, ← b2.length]; exact h, fun z => ?_, fun _ z => ?_, fun _ _ p n => q.tup hm (b1.append b2) n⟩
        · have z' := b1.nil_iff.mp z
          subst z'
          exact q.here hm (.tup a2 b2)
        · have z' := b2.nil_iff.mp z
          subst z'
          rw [List.append_nil] at q
          exact q.here hm (.tup a1 b1)
      · cases hg
    · split at hg
      · rename_i h1 h2
        obtain ⟨a, vs, rfl, _, e1, w1⟩ := hm.lst h1 r1
        obtain ⟨b, ws, rfl, _, e2, w2⟩ := hm.lst h2 r2
        split at hg
        · rename_i h
          cases hg
          exact op_cat pins s σ H _ _ v u Q I rx ry ⟨_, _, _, _, rfl, rfl, e1, e2, by rw [← w1.length, ← w2.length]; exact h, fun p n => q.lst hm (w1.append w2) n⟩
        · cases hg
      · cases hg
  | sub =>
    cases r1 <;> cases r2 <;> simp [opBin] at hg
    obtain ⟨rfl, rfl⟩ := hg
    exact op_sub pins s σ H _ _ v u Q I rx ry ⟨_, _, rfl, rfl, q.here hm (.int _)⟩
  | mul =>
    unfold opBin at hg
    split at hg
    all_goals first | (rename_i e; cases e; done) | skip
    all_goals first | (cases hg; done) | skip
    · cases r1; cases r2
      split at hg
      · rename_i h
        cases hg
        refine op_mul pins s σ H _ _ v u Q I rx ry ⟨_, _, rfl, rfl, ?_, q.here hm (.int _)⟩
        rw [Bool.or_eq_true] at h
        rcases h with h | h
        · exact .inl (of_decide_eq_true h)
        · exact .inr (of_decide_eq_true h)
      · cases hg
    · cases r1; cases r2
      split at hg
      · rename_i h
        simp only [Bool.and_eq_true, decide_eq_true_eq] at h
        cases hg
        obtain ⟨t, rfl⟩ := rx
        obtain ⟨t', rfl⟩ := ry
        exact SB.mul (mulOk_str h.1.1 h.1.2 h.2) fun t'' tk => by
          rw [mul_str]
          exact ⟨.str ⟨(List.replicate _ _).flatten.toArray⟩, H, I.tok _, ⟨_, rfl⟩, q.here hm (.str _)⟩
      · cases hg
    · cases r1 with | tup a1 b1 =>
      cases r2
      split at hg
      · rename_i h
        simp only [Bool.and_eq_true, decide_eq_true_eq] at h
        cases hg
        exact op_repT pins s σ H _ _ v u Q I rx ry ⟨_, _, _, rfl, rfl, a1, fun z => h.1.1.1 (b1.nil_iff.mp z), h.1.1.2, h.1.2, by rw [← b1.length]; exact h.2, fun p n => q.tup hm (b1.flatten _) n⟩
      · cases hg
  | fdiv =>
    cases r1 <;> cases r2 <;> simp [opBin] at hg
    obtain ⟨h, rfl, rfl⟩ := hg
    exact op_fdiv pins s σ H _ _ v u Q I rx ry ⟨_, _, rfl, rfl, h, q.here hm (.int _)⟩
  | mod =>
    cases r1 <;> cases r2 <;> simp [opBin] at hg
    obtain ⟨h, rfl, rfl⟩ := hg
    exact op_mod pins s σ H _ _ v u Q I rx ry ⟨_, _, rfl, rfl, h, q.here hm (.int _)⟩
  | pow =>
    cases r1 <;> cases r2 <;> simp [opBin] at hg
    obtain ⟨h, rfl, rfl⟩ := hg
    exact op_pow pins s σ H _ _ v u Q I rx ry ⟨_, _, rfl, rfl, by simpa [CPow] using h, q.here hm (.int _)⟩

theorem truth_ok (hm : RM K H ι M) {d : D} {v : V} {k : Bool} (r : RV K H ι d v) (e : truth d M = some k) : TruV K v H k := by
  have em : ∀ {ds : List D} {vs : List V}, RVs K H ι ds vs → (!ds.isEmpty) = !vs.isEmpty := fun h => by cases h <;> rfl
  cases r with
  | non => simpa [truth, TruV, eq_comm] using e
  | bl b => simpa [truth, TruV, eq_comm] using e
  | int i => simp [truth] at e; subst e; rfl
  | str s =>
    unfold truth at e
    dsimp only at e
    split at e
    · rename_i h
      cases e
      refine ⟨by simpa [Str.length] using h, ?_⟩
      cases s with
      | nil => rfl
      | cons c r =>
        simp [Str.length]
        omega
    · cases e
  | tup h1 h2 => simp only [truth, Option.some.injEq] at e; subst e; exact .inr (.inl ⟨_, h1, em h2⟩)
  | rol h1 h2 => simp only [truth, Option.some.injEq] at e; subst e; exact .inl ⟨_, h1.seq, em h2⟩
  | obj h1 =>
    rename_i n a
    simp only [truth] at e
    split at e
    · rename_i xs hx
      obtain ⟨a', vs, z, _, hH, hr⟩ := hm.lst hx (.obj h1)
      cases z
      cases e
      exact .inl ⟨_, SqL.of hH, em hr⟩
    · rename_i kvs hx
      obtain ⟨a', vs, z, _, hH, hr⟩ := hm.dK hx (.obj h1)
      cases z
      cases e
      refine .inr (.inr ⟨_, hH, ?_⟩)
      have := hr.length
      cases kvs <;> cases vs <;> simp_all
    · cases e
theorem RVs.atI {ds : List D} {vs : List V} (h : RVs K H ι ds vs) {i : Int} {d : D} (e : atI ds i = some d) : ∃ v, L2.atI vs i = some v ∧ RV K H ι d v := by
  unfold L2.atI at e ⊢
  rw [← h.length]
  cases z : ixN ds.length i with
  | none => rw [z] at e; cases e
  | some j =>
    rw [z] at e
    exact h.get e
def rIxD (K : Fr) : R2 := fun x y H Q => ∃ ι M dx dy d, RM K H ι M ∧ RV K H ι dx x ∧ RV K H ι dy y ∧ opIx dx dy M = some d ∧ ∀ v, RV K H ι d v → Q v H
theorem ix_ok {k : Nat} (hr : Room k X.A) : IxR X (rIxD X.K) := by
  intro value slice pins s σ H x y v u Q I rx ry ⟨ι, M, dx, dy, d, hm, r1, r2, hg, q⟩ hs
  have hu : X.A.units + 1 < cLine := by have := room150 hr; omega
  unfold opIx at hg
  split at hg
  · cases r1 with | tup a1 b1 =>
    cases r2
    obtain ⟨w, e1, e2⟩ := b1.atI hg
    exact ix_tup value slice pins s σ H _ _ v u Q I rx ry ⟨_, _, _, _, rfl, rfl, a1, e1, q w e2⟩ hs
  · cases r1 with | rol a1 b1 =>
    cases r2
    obtain ⟨w, e1, e2⟩ := b1.atI hg
    exact ix_list value slice pins s σ H _ _ v u Q I rx ry ⟨_, _, _, _, rfl, rfl, a1.seq, e1, q w e2⟩ hs
  · cases r1; cases r2
    split at hg
    · rename_i h
      obtain ⟨c, hc, rfl⟩ := Option.map_eq_some_iff.mp hg
      refine ix_str value slice pins s σ H _ _ v u Q I rx ry ⟨_, _, c, rfl, rfl, by simpa [Str.length] using h, by simpa using hc, ?_⟩ hs
      exact q _ (.str [c])
    · cases hg
  · split at hg
    · rename_i xs hx
      obtain ⟨a, vs, rfl, _, hH, hr⟩ := hm.lst hx r1
      split at hg
      · cases r2
        obtain ⟨w, e1, e2⟩ := hr.atI hg
        exact ix_list value slice pins s σ H _ _ v u Q I rx ry ⟨_, _, _, _, rfl, rfl, SqL.of hH, e1, q w e2⟩ hs
      · cases hg
    · rename_i kvs hx
      obtain ⟨a, vs, rfl, _, hH, hr⟩ := hm.dK hx r1
      obtain ⟨k, hk, hg⟩ := Option.bind_eq_some_iff.mp hg
      obtain ⟨w, e1, e2⟩ := (keyed_valV hr).1 d hg
      have g : DGet H a y (some w) := by
        rw [keyOf_kV r2 hk, ← e1]; exact DGet.k hH
      cases rx
      exact tail_any (ops := [.ref a, u]) (dict_typeIs I g) PySem.F.slot_dict_getitem.lookup (d_getItem hu I g ry fun w' s' I' rw' => ⟨w, H, I', rw', q w e2⟩) hs
    · rename_i kvs hx
      obtain ⟨a, od, vs, rfl, _, hH, hr⟩ := hm.dL hx r1
      obtain ⟨k, hk, hg⟩ := Option.bind_eq_some_iff.mp hg
      obtain ⟨w, e1, e2⟩ := (keyed_valV hr).1 d hg
      have g : DGet H a y (some w) := by
        rw [keyOf_kV r2 hk, ← e1]; exact dget_rd (.inr ⟨od, hH⟩)
      cases rx
      exact tail_any (ops := [.ref a, u]) (dict_typeIs I g) PySem.F.slot_dict_getitem.lookup (d_getItem hu I g ry fun w' s' I' rw' => ⟨w, H, I', rw', q w e2⟩) hs
    · cases hg
  · cases hg
theorem RVs.cut {ds : List D} {vs : List V} (h : RVs K H ι ds vs) (lo hi : Option Int) : RVs K H ι (cut ds lo hi) (cutV vs lo hi) := by
  unfold Py.cut cutV
  rw [← h.length]
  exact (h.drop _).take _
def rSlD (K : Fr) : V → Option Int → Option Int → Hp → VK → Prop := fun x lo hi H Q => ∃ ι M dx d M', RM K H ι M ∧ RV K H ι dx x ∧ opSlice dx lo hi M = some (d, M') ∧ Fol K H ι M' d Q
theorem slice_ok : SlR X (rSlD X.K) := by
  intro pins s σ H x v vl vu lo hi sl Q I rx hs pl pu ⟨ι, M, dx, d, M', hm, r1, hg, q⟩
  unfold opSlice at hg
  split at hg
  · cases hg
    cases r1 with | tup a1 b1 =>
    refine sl_tupA pins s σ H _ v vl vu lo hi sl Q I rx hs pl pu ⟨_, _, rfl, a1, fun z => ?_, fun _ p n => q.tup hm (b1.cut lo hi) n⟩
    have e : cut _ lo hi = _ := show Py.cut _ lo hi = _ from by
      unfold Py.cut
      rw [b1.length, z.1, z.2, List.drop_zero, Nat.sub_zero, ← b1.length, List.take_length]
    rw [e] at q
    exact q.here hm (.tup a1 b1)
  · cases r1
    split at hg
    · rename_i h
      cases hg
      refine sl_str pins s σ H _ v vl vu lo hi sl Q I rx hs pl pu ⟨_, rfl, by simpa [Str.length] using h, ?_⟩
      have := q.here hm (.str _)
      simpa [sv, cutS, Py.cut, Str.length] using this
    · cases hg
  · split at hg
    · rename_i xs hx
      cases hg
      obtain ⟨a, vs, rfl, _, hH, hr⟩ := hm.lst hx r1
      exact sl_list pins s σ H _ v vl vu lo hi sl Q I rx hs pl pu ⟨_, _, rfl, SqL.of hH, fun p n => q.lst hm (hr.cut lo hi) n⟩
    · cases hg
  · cases hg
def rSetD (K : Fr) : TSet := fun o i v H Q => ∃ ι M d1 d2 d3 M', RM K H ι M ∧ RV K H ι d1 o ∧ RV K H ι d2 i ∧ RV K H ι d3 v ∧ opSetIx d1 d2 d3 M = some M' ∧ ∀ H', Ext H ι H' ι → RM K H' ι M' → Q H'
theorem setix_ok {k : Nat} (hr : Room k X.A) : PSet X (rSetD X.K) := by
  intro pins s σ H o i v ov iv u Q I ro ri rv ⟨ι, M, d1, d2, d3, M', hm, r1, r2, r3, hg, q⟩
  have hu : X.A.units + 1 < cLine := by have := room150 hr; omega
  unfold opSetIx at hg
  split at hg
  · split at hg
    · rename_i xs hx
      obtain ⟨a, vs, rfl, ha, hH, hr⟩ := hm.lst hx r1
      split at hg
      · obtain ⟨j, hj, rfl⟩ := Option.map_eq_some_iff.mp hg
        cases r2
        obtain ⟨e, m⟩ := hm.set (o := .lst (vs.set j v)) (m := .lst (xs.set j d3)) hx ha ⟨_, rfl, RVs.set r3 j hr⟩
        exact set_list pins s σ H _ _ v ov iv u Q I ro ri rv ⟨_, _, _, j, rfl, rfl, hH, by rw [← hr.length]; exact hj, q _ e m⟩
      · cases hg
    · rename_i kvs hx
      obtain ⟨a, vs, rfl, ha, hH, hr⟩ := hm.dK hx r1
      obtain ⟨k, hk, hg⟩ := Option.bind_eq_some_iff.mp hg
      split at hg
      · rename_i h
        cases hg
        obtain ⟨e, m⟩ := hm.set (o := .dK (putK vs k v)) (m := .dK (putKey k d3 kvs)) hx ha ⟨_, rfl, putKey_putK r3 hr⟩
        have g : DPut H a i v (upd H a (.dK (putK vs k v))) := by
          rw [keyOf_kV r2 hk]; exact DPut.k hH (by rw [← hr.length]; exact h)
        cases ro
        exact d_setItem hu I g ri rv fun s' I' => ⟨_, I', q _ e m⟩
      · cases hg
    · cases hg
  · cases hg
end
end Py

set_option Elab.async false
set_option autoImplicit false
set_option linter.all false
set_option maxRecDepth 100000
set_option maxHeartbeats 4000000
/-! E5: built-in functions and methods. -/
namespace Py
open PySem PySem.Spec PyProof.Rows L2

/-! ### sorting -/
open SrtO in
theorem insBy_perm {α : Type} (lt : α → α → Bool) (x : α) : ∀ l : List α, (insBy lt x l).Perm (x :: l)
  | [] => .refl _
  | y :: r => by
    unfold insBy
    split
    · exact ((insBy_perm lt x r).cons y).trans (.swap _ _ _)
    · exact .refl _
theorem sortBy_perm {α : Type} (lt : α → α → Bool) : ∀ l : List α, (sortBy lt l).Perm l
  | [] => .refl _
  | x :: r => (insBy_perm lt x (sortBy lt r)).trans ((sortBy_perm lt r).cons x)
theorem insBy_srtd {α : Type} {lt : α → α → Bool} (O : SrtO.Swo lt) (x : α) : ∀ {l : List α}, SrtO.Srtd lt l → SrtO.Srtd lt (insBy lt x l)
  | [], _ => List.pairwise_singleton _ _
  | y :: r, h => by
    obtain ⟨h1, h2⟩ := List.pairwise_cons.mp h
    unfold insBy
    split
    · rename_i q
      refine List.pairwise_cons.mpr ⟨fun z hz => ?_, insBy_srtd O x h2⟩
      rcases List.mem_cons.mp ((insBy_perm lt x r).mem_iff.mp hz) with rfl | hz
      · exact O.asym _ _ q
      · exact h1 z hz
    · rename_i q
      have q : lt y x = false := by simpa using q
      refine List.pairwise_cons.mpr ⟨fun z hz => ?_, h⟩
      rcases List.mem_cons.mp hz with rfl | hz
      · exact q
      · exact O.tr _ _ _ q (h1 z hz)
theorem sortBy_srtd {α : Type} {lt : α → α → Bool} (O : SrtO.Swo lt) : ∀ l : List α, SrtO.Srtd lt (sortBy lt l)
  | [] => .nil
  | x :: r => insBy_srtd O x (sortBy_srtd O r)
/-- where only equal things are alike: a sorted list is the only one -/
theorem srt_uniq {α : Type} {lt : α → α → Bool} (O : SrtO.Swo lt) (tot : ∀ x y, lt x y = false → lt y x = false → x = y) : ∀ {l m : List α}, SrtO.Srtd lt l → SrtO.Srtd lt m → l.Perm m → l = m
  | [], m, _, _, p => (List.Perm.eq_nil p.symm).symm
  | x :: l, [], _, _, p => absurd p.length_eq (by simp)
  | x :: l, y :: m, hl, hm, p => by
    obtain ⟨a1, a2⟩ := List.pairwise_cons.mp hl
    obtain ⟨b1, b2⟩ := List.pairwise_cons.mp hm
    have h1 : lt x y = false := by
      rcases List.mem_cons.mp (p.mem_iff.mp (List.mem_cons_self (a := x) (l := l))) with e | hx
      · rw [e]; exact O.refl y
      · exact b1 x hx
    have h2 : lt y x = false := by
      rcases List.mem_cons.mp (p.mem_iff.mpr (List.mem_cons_self (a := y) (l := m))) with e | hy
      · rw [e]; exact O.refl x
      · exact a1 y hy
    have e := tot x y h1 h2
    subst e
    rw [srt_uniq O tot a2 b2 p.cons_inv]
theorem sortBy_uniq {α : Type} {lt : α → α → Bool} (O : SrtO.Swo lt) (tot : ∀ x y, lt x y = false → lt y x = false → x = y) {l m : List α} (p : m.Perm l) (h : SrtO.Srtd lt m) : m = sortBy lt l :=
  srt_uniq O tot h (sortBy_srtd O l) (p.trans (sortBy_perm lt l).symm)
theorem nlt_irrefl (a : List Nat) : ¬ a < a := List.lt_irrefl a
theorem nlt_tri (a b : List Nat) (h1 : ¬ a < b) (h2 : ¬ b < a) : a = b := List.le_antisymm (List.not_lt.mp h2) (List.not_lt.mp h1)
theorem strLt_swo : SrtO.Swo strLt := by
  refine ⟨fun x y h => ?_, fun x y z h1 h2 => ?_⟩
  · have h : x < y := of_decide_eq_true h
    exact decide_eq_false fun q => nlt_irrefl x (List.lt_trans h q)
  · have h1 : ¬ y < x := of_decide_eq_false h1
    have h2 : ¬ z < y := of_decide_eq_false h2
    refine decide_eq_false fun q => ?_
    by_cases h3 : x = y
    · subst h3; exact h2 q
    · have : x < y := by
        refine Classical.byContradiction fun n => h3 (nlt_tri x y n h1)
      exact h2 (List.lt_trans q this)
theorem strLt_tot (x y : List Nat) (h1 : strLt x y = false) (h2 : strLt y x = false) : x = y := nlt_tri x y (of_decide_eq_false h1) (of_decide_eq_false h2)
theorem pairLt_iff {p q : List Nat × List Nat} : pairLt p q = true ↔ p.1 < q.1 ∨ (p.1 = q.1 ∧ p.2 < q.2) := by
  unfold pairLt
  by_cases e : p.1 = q.1
  · rw [if_pos e, decide_eq_true_eq, e]
    exact ⟨fun h => .inr ⟨rfl, h⟩, fun h => h.elim (fun z => absurd z (nlt_irrefl _)) fun z => z.2⟩
  · rw [if_neg e, decide_eq_true_eq]
    exact ⟨.inl, fun h => h.elim id fun z => absurd z.1 e⟩
theorem pairLt_no {p q : List Nat × List Nat} : pairLt p q = false ↔ ¬ (p.1 < q.1 ∨ (p.1 = q.1 ∧ p.2 < q.2)) := by
  rw [← pairLt_iff]
  cases pairLt p q <;> simp
theorem nlt_cmp (a b : List Nat) : a < b ∨ a = b ∨ b < a := by
  by_cases h1 : a < b
  · exact .inl h1
  · by_cases h2 : b < a
    · exact .inr (.inr h2)
    · exact .inr (.inl (nlt_tri a b h1 h2))
theorem pairLt_tot (x y : List Nat × List Nat) (h1 : pairLt x y = false) (h2 : pairLt y x = false) : x = y := by
  have a := pairLt_no.mp h1
  have b := pairLt_no.mp h2
  have e1 : x.1 = y.1 := nlt_tri _ _ (fun z => a (.inl z)) fun z => b (.inl z)
  have e2 : x.2 = y.2 := nlt_tri _ _ (fun z => a (.inr ⟨e1, z⟩)) fun z => b (.inr ⟨e1.symm, z⟩)
  exact Prod.ext e1 e2
theorem pairLt_swo : SrtO.Swo pairLt := by
  refine ⟨fun x y h => ?_, fun x y z h1 h2 => ?_⟩
  · refine pairLt_no.mpr fun q => ?_
    rcases pairLt_iff.mp h with h | ⟨e, h⟩ <;> rcases q with q | ⟨e', q⟩
    · exact nlt_irrefl _ (List.lt_trans h q)
    · rw [e'] at h; exact nlt_irrefl _ h
    · rw [e] at q; exact nlt_irrefl _ q
    · exact nlt_irrefl _ (List.lt_trans h q)
  · have a := pairLt_no.mp h1
    have b := pairLt_no.mp h2
    refine pairLt_no.mpr fun q => ?_
    have h1 : ¬ y.1 < x.1 := fun z => a (.inl z)
    have h2 : ¬ z.1 < y.1 := fun q => b (.inl q)
    have h3 : x.1 < y.1 ∨ x.1 = y.1 := by
      rcases nlt_cmp x.1 y.1 with h | h | h
      · exact .inl h
      · exact .inr h
      · exact absurd h h1
    have h4 : y.1 < z.1 ∨ y.1 = z.1 := by
      rcases nlt_cmp y.1 z.1 with h | h | h
      · exact .inl h
      · exact .inr h
      · exact absurd h h2
    rcases q with q | ⟨e, q⟩
    · rcases h3 with h3 | h3
      · exact h2 (List.lt_trans q h3)
      · rw [h3] at q; exact h2 q
    · rcases h3 with h3 | h3
      · rw [← e] at h3
        exact h2 h3
      · rcases h4 with h4 | h4
        · rw [← h3, e] at h4; exact nlt_irrefl _ h4
        · rcases nlt_cmp x.2 y.2 with h5 | h5 | h5
          · exact b (.inr ⟨h4.symm, List.lt_trans q h5⟩)
          · rw [h5] at q; exact b (.inr ⟨h4.symm, q⟩)
          · exact a (.inr ⟨h3.symm, h5⟩)
/-! ### sorting ints -/
theorem insI_perm (x : Int) : ∀ l : List Int, (insI x l).Perm (x :: l)
  | [] => .refl _
  | y :: r => by
    unfold insI
    split
    · exact .refl _
    · exact ((insI_perm x r).cons y).trans (.swap x y r)
theorem sortI_perm : ∀ l : List Int, (sortI l).Perm l
  | [] => .refl _
  | x :: r => (insI_perm x _).trans ((sortI_perm r).cons x)
theorem insI_sorted (x : Int) : ∀ {l : List Int}, l.Pairwise (· ≤ ·) → (insI x l).Pairwise (· ≤ ·)
  | [], _ => List.pairwise_singleton _ _
  | y :: r, h => by
    unfold insI
    split
    · rename_i hx
      refine List.pairwise_cons.mpr ⟨fun z hz => ?_, h⟩
      rcases List.mem_cons.mp hz with rfl | hz
      · exact hx
      · exact Int.le_trans hx ((List.pairwise_cons.mp h).1 z hz)
    · rename_i hx
      refine List.pairwise_cons.mpr ⟨fun z hz => ?_, insI_sorted x (List.pairwise_cons.mp h).2⟩
      have hz' := (insI_perm x r).mem_iff.mp hz
      rcases List.mem_cons.mp hz' with rfl | hz'
      · omega
      · exact (List.pairwise_cons.mp h).1 z hz'
theorem sortI_sorted : ∀ l : List Int, (sortI l).Pairwise (· ≤ ·)
  | [] => .nil
  | x :: r => insI_sorted x (sortI_sorted r)
theorem sortI_uniq {l m : List Int} (p : m.Perm l) (h : m.Pairwise (· ≤ ·)) : m = sortI l :=
  (p.trans (sortI_perm l).symm).eq_of_pairwise (fun a b _ _ h1 h2 => Int.le_antisymm h1 h2) h (sortI_sorted l)

theorem txt_join : ∀ ys : List Str, Txt.join ⟨#[]⟩ ys = ⟨((ys.map fun y => y.cps.toList).flatten).toArray⟩ := by
  intro ys
  rw [TL.join_eq]
  have go : ∀ ps : List (List Nat), TL.joinL [] ps = ps.flatten := by
    intro ps
    induction ps with
    | nil => rfl
    | cons p r ih =>
      cases r with
      | nil => simp [TL.joinL]
      | cons q r => rw [TL.joinL, ih]; rfl
  have h := TL.tl_join ⟨#[]⟩ ys
  rw [show TL.tl (⟨#[]⟩ : Str) = [] from rfl, go] at h
  have e : ∀ x y : Str, x.cps.toList = y.cps.toList → x = y := fun ⟨x⟩ ⟨y⟩ z => congrArg Str.mk (Array.toList_inj.mp z)
  apply e
  show TL.tl (Str.join ⟨#[]⟩ ys) = _
  rw [h]

section
variable {K : Fr} {H : Hp} {ι : List Addr} {M : Mem} {X : Cx}
theorem RVs.intsOf : ∀ {ds : List D} {vs : List V} {ns : List Int}, RVs K H ι ds vs → Py.intsOf ds = some ns → vs = ns.map V.int
  | [], _, _, h, e => by cases h; simp [Py.intsOf] at e; subst e; rfl
  | d :: ds, _, _, h, e => by
    cases h with
    | cons h1 h2 =>
      cases h1 <;> simp [Py.intsOf] at e
      obtain ⟨r, hr, rfl⟩ := e
      rw [RVs.intsOf h2 hr]; rfl
theorem RVs.strsOf : ∀ {ds : List D} {vs : List V} {ss : List (List Nat)}, RVs K H ι ds vs → Py.strsOf ds = some ss → vs = (ss.map fun s => (⟨s.toArray⟩ : Str)).map V.str
  | [], _, _, h, e => by cases h; simp [Py.strsOf] at e; subst e; rfl
  | d :: ds, _, _, h, e => by
    cases h with
    | cons h1 h2 =>
      cases h1 <;> simp [Py.strsOf] at e
      obtain ⟨r, hr, rfl⟩ := e
      rw [RVs.strsOf h2 hr]; rfl
def rBi (K : Fr) (b : Bi) : List V → Hp → VK → Prop := fun xs H Q => ∃ ι M ds d M', RM K H ι M ∧ RVs K H ι ds xs ∧ opBi b ds M = some (d, M') ∧ Fol K H ι M' d Q
theorem RVs.one {d : D} {vs : List V} (h : RVs K H ι [d] vs) : ∃ v, vs = [v] ∧ RV K H ι d v := by
  cases h with
  | cons a b => cases b; exact ⟨_, rfl, a⟩
theorem RVs.two {d e : D} {vs : List V} (h : RVs K H ι [d, e] vs) : ∃ v w, vs = [v, w] ∧ RV K H ι d v ∧ RV K H ι e w := by
  cases h with
  | cons a b => obtain ⟨w, rfl, c⟩ := RVs.one b; exact ⟨_, w, rfl, a, c⟩
theorem bi_len : CallR X (.builtin "len") (rBi X.K .len) := by
  intro pins s σ H xs us Q I r ⟨ι, M, ds, d, M', hm, rs, hg, q⟩
  unfold opBi at hg
  split at hg
  all_goals first | (rename_i e _; cases e; done) | (rename_i e; cases e; done) | skip
  all_goals first | (cases hg; done) | skip
  · obtain ⟨v, rfl, r1⟩ := rs.one
    cases r1
    split at hg
    · rename_i h
      cases hg
      refine call_len_str pins s σ H _ us Q I r ⟨_, rfl, by simpa [Str.length] using h, ?_⟩
      have := q.here hm (.int _)
      simpa [Str.length] using this
    · cases hg
  · obtain ⟨v, rfl, r1⟩ := rs.one
    cases r1 with | tup a b =>
    cases hg
    exact call_len_seq pins s σ H _ us Q I r ⟨_, _, rfl, .inr a, by rw [← b.length]; exact q.here hm (.int _)⟩
  · obtain ⟨v, rfl, r1⟩ := rs.one
    cases r1 with | rol a b =>
    cases hg
    exact call_len_seq pins s σ H _ us Q I r ⟨_, _, rfl, .inl a.seq, by rw [← b.length]; exact q.here hm (.int _)⟩
  · obtain ⟨v, rfl, r1⟩ := rs.one
    split at hg
    · rename_i hx
      cases hg
      obtain ⟨a, vs, rfl, _, hH, hr⟩ := hm.lst hx r1
      exact call_len_seq pins s σ H _ us Q I r ⟨_, _, rfl, .inl (SqL.of hH), by rw [← hr.length]; exact q.here hm (.int _)⟩
    · rename_i hx
      cases hg
      obtain ⟨a, vs, rfl, _, hH, hr⟩ := hm.dK hx r1
      exact call_lenD pins s σ H _ us Q I r ⟨_, _, rfl, hH, by rw [← hr.length]; exact q.here hm (.int _)⟩
    · cases hg
theorem bi_int : CallR X (.type "int") (rBi X.K .int) := by
  intro pins s σ H xs us Q I r ⟨ι, M, ds, d, M', hm, rs, hg, q⟩
  unfold opBi at hg
  split at hg
  all_goals first | (rename_i e _; cases e; done) | (rename_i e; cases e; done) | skip
  all_goals first | (cases hg; done) | skip
  · obtain ⟨v, rfl, r1⟩ := rs.one
    cases r1; cases hg
    exact call_int1 pins s σ H _ us Q I r (.inl ⟨_, rfl, q.here hm (.int _)⟩)
  · obtain ⟨v, rfl, r1⟩ := rs.one
    cases r1; cases hg
    exact call_int1 pins s σ H _ us Q I r (.inr ⟨_, rfl, q.here hm (.int _)⟩)
theorem bi_abs : CallR X (.builtin "abs") (rBi X.K .abs) := by
  intro pins s σ H xs us Q I r ⟨ι, M, ds, d, M', hm, rs, hg, q⟩
  unfold opBi at hg
  split at hg
  all_goals first | (rename_i e _; cases e; done) | (rename_i e; cases e; done) | skip
  all_goals first | (cases hg; done) | skip
  · obtain ⟨v, rfl, r1⟩ := rs.one
    cases r1; cases hg
    exact call_abs pins s σ H _ us Q I r ⟨_, rfl, q.here hm (.int _)⟩
theorem bi_ord : CallR X (.builtin "ord") (rBi X.K .ord) := by
  intro pins s σ H xs us Q I r ⟨ι, M, ds, d, M', hm, rs, hg, q⟩
  unfold opBi at hg
  split at hg
  all_goals first | (rename_i e _; cases e; done) | (rename_i e; cases e; done) | skip
  all_goals first | (cases hg; done) | skip
  · obtain ⟨v, rfl, r1⟩ := rs.one
    cases r1; cases hg
    exact call_ord pins s σ H _ us Q I r ⟨_, rfl, rfl, q.here hm (.int _)⟩
theorem bi_max2 (hc : X.calm = true) : CallR X (.builtin "max") (rBi X.K .max2) := by
  intro pins s σ H xs us Q I r ⟨ι, M, ds, d, M', hm, rs, hg, q⟩
  unfold opBi at hg
  split at hg
  all_goals first | (rename_i e _; cases e; done) | (rename_i e; cases e; done) | skip
  all_goals first | (cases hg; done) | skip
  · obtain ⟨v, w, rfl, r1, r2⟩ := rs.two
    cases r1; cases r2; cases hg
    exact call_max2 hc pins s σ H _ us Q I r ⟨_, _, rfl, q.here hm (.int _)⟩
theorem bi_min2 (hc : X.calm = true) : CallR X (.builtin "min") (rBi X.K .min2) := by
  intro pins s σ H xs us Q I r ⟨ι, M, ds, d, M', hm, rs, hg, q⟩
  unfold opBi at hg
  split at hg
  all_goals first | (rename_i e _; cases e; done) | (rename_i e; cases e; done) | skip
  all_goals first | (cases hg; done) | skip
  · obtain ⟨v, w, rfl, r1, r2⟩ := rs.two
    cases r1; cases r2; cases hg
    exact call_min2 hc pins s σ H _ us Q I r ⟨_, _, rfl, q.here hm (.int _)⟩
theorem bi_tuple : CallR X (.type "tuple") (rBi X.K .tuple) := by
  intro pins s σ H xs us Q I r ⟨ι, M, ds, d, M', hm, rs, hg, q⟩
  unfold opBi at hg
  split at hg
  all_goals first | (rename_i e _; cases e; done) | (rename_i e; cases e; done) | skip
  all_goals first | (cases hg; done) | skip
  · obtain ⟨v, rfl, r1⟩ := rs.one
    cases hg
    cases r1 with | tup a b =>
    exact call_tuple_of pins s σ H _ us Q I r ⟨_, _, rfl, .inr ⟨a, q.here hm (.tup a b)⟩⟩
  · obtain ⟨v, rfl, r1⟩ := rs.one
    split at hg
    · rename_i hx
      cases hg
      obtain ⟨a, vs, rfl, _, hH, hr⟩ := hm.lst hx r1
      exact call_tuple_of pins s σ H _ us Q I r ⟨_, _, rfl, .inl ⟨SqL.of hH, fun p n => q.tup hm hr n⟩⟩
    · cases hg
theorem itemsOf_ok (hm : RM K H ι M) {d : D} {v : V} {xs : List D} (r : RV K H ι d v) (e : itemsOf M d = some xs) : ∃ a vs, v = .ref a ∧ (SqL K H a vs ∨ SqT K H a vs) ∧ RVs K H ι xs vs := by
  unfold itemsOf at e
  split at e
  · cases e; cases r with | tup a b => exact ⟨_, _, rfl, .inr a, b⟩
  · cases e; cases r with | rol a b => exact ⟨_, _, rfl, .inl a.seq, b⟩
  · split at e
    · rename_i hx
      cases e
      obtain ⟨a, vs, rfl, _, hH, hr⟩ := hm.lst hx r
      exact ⟨a, vs, rfl, .inl (SqL.of hH), hr⟩
    · cases e
  · cases e
theorem bi_list : CallR X (.type "list") (rBi X.K .list) := by
  intro pins s σ H xs us Q I r ⟨ι, M, ds, d, M', hm, rs, hg, q⟩
  unfold opBi at hg
  split at hg
  all_goals first | (rename_i e _; cases e; done) | (rename_i e; cases e; done) | skip
  all_goals first | (cases hg; done) | skip
  · obtain ⟨v, rfl, r1⟩ := rs.one
    split at hg
    · rename_i hx
      cases hg
      obtain ⟨a, vs, rfl, h1, hr⟩ := itemsOf_ok hm r1 hx
      exact call_list_of pins s σ H _ us Q I r ⟨_, _, rfl, h1, fun p n => q.lst hm hr n⟩
    · cases hg
/-- sorted(xs), texts -/
theorem cr_sortedSA : CallR X (.builtin "sorted") (fun vs H Q => ∃ (a : Addr) (xs : List Str), vs = [V.ref a] ∧ SqL X.K H a (xs.map V.str) ∧
    ∀ (ys : List Str) (p : Addr), ys.Perm xs → sortedS ys = true → H p = none → Q (.ref p) (upd H p (.lst (ys.map V.str)))) := by
  intro pins s σ H vs us Q I r h
  obtain ⟨a, xs, rfl, hs, q⟩ := h
  obtain ⟨its, rv, hl, hz⟩ := I.list hs
  obtain ⟨u, rfl, ru⟩ := vals1 r
  obtain rfl : u = Value.ref a := ru
  have hlen0 := rv.length
  rw [List.length_map] at hlen0
  refine PyProof.Rows.sorted_strsAny hl.isList rv.strs (by rw [← hlen0]; simpa using hz) fun out ys h1 h2 h3 => ?_
  obtain ⟨ep, he'⟩ := PyProof.Rows.sortedAll_at s.heap its out
  have hlen : (ys.map V.str).length ≤ sizeLine := by rw [List.length_map, h2.length_eq]; simpa using hz
  exact ⟨.ref _, upd H (s.heap.objs.size + 1) (.lst (ys.map V.str)), I.laid (t' := s.toks) (fun _ _ => PyProof.Rows.sortedAll_old) (Nat.le_succ _) ⟨hlen, out.toList, ep, vals_of_strs h1, he'⟩, rfl, q ys _ h2 h3 (I.hok.fresh (Nat.le_succ _))⟩
theorem risingS_srtd : ∀ (p : Str) (ss : List Str), risingS p ss = true → SrtO.Srtd strLt ((p :: ss).map fun x => x.cps.toList)
  | p, [], _ => List.pairwise_singleton _ _
  | p, x :: r, h => by
    have h : (!ltCps x.cps.toList p.cps.toList && risingS x r) = true := h
    rw [Bool.and_eq_true, ltCps_eq, Bool.not_eq_true'] at h
    have ih := risingS_srtd x r h.2
    refine List.pairwise_cons.mpr ⟨fun z hz => ?_, ih⟩
    rcases List.mem_cons.mp hz with rfl | hz
    · exact h.1
    · exact strLt_swo.tr _ _ _ h.1 ((List.pairwise_cons.mp ih).1 z hz)
theorem sortedS_srtd {ss : List Str} (h : sortedS ss = true) : SrtO.Srtd strLt (ss.map fun x => x.cps.toList) := by
  cases ss with
  | nil => exact .nil
  | cons p r => exact risingS_srtd p r h
theorem str_of (x : Str) : (⟨x.cps.toList.toArray⟩ : Str) = x := rfl
theorem strs_of (xs : List Str) : xs.map V.str = (xs.map fun x => x.cps.toList).map sv := by
  rw [List.map_map]
  exact List.map_congr_left fun x _ => rfl
theorem RVs.ofStrs : ∀ (ss : List (List Nat)), RVs K H ι (ss.map D.str) (ss.map sv)
  | [] => .nil
  | s :: ss => .cons (.str s) (RVs.ofStrs ss)

/-! ### pairs of texts -/
def IsPairS (h : Heap) (v : Value) (x y : Str) : Prop := ∃ a o t u n, v = .ref a ∧ h.get? a = some o ∧ o.cls = .type "tuple" ∧ o.data = .seq #[.str x t, .str y u] n
theorem IsPairS.keeps {h h' : Heap} {v : Value} {x y : Str} (p : IsPairS h v x y) (k : ∀ b o, h.get? b = some o → o.cls = .type "tuple" → h'.get? b = some o) : IsPairS h' v x y := by
  obtain ⟨a, o, t, u, n, e, ho, hc, hd⟩ := p
  exact ⟨a, o, t, u, n, e, k _ _ ho hc, hc, hd⟩
theorem IsPairS.uniq {h : Heap} {v : Value} {x y x' y' : Str} (p : IsPairS h v x y) (q : IsPairS h v x' y') : x = x' ∧ y = y' := by
  obtain ⟨a, o, t, u, n, rfl, ho, hc, hd⟩ := p
  obtain ⟨a', o', t', u', n', e, ho', hc', hd'⟩ := q
  cases e
  rw [ho] at ho'
  cases ho'
  rw [hd] at hd'
  simp only [Data.seq.injEq, Array.mk.injEq, List.cons.injEq, Value.str.injEq] at hd'
  exact ⟨hd'.1.1.1, hd'.1.2.1.1⟩
section
variable {prog : Program} {w : World} {A : Around} {s : Shared}
open SrtO Srt in
theorem pairS_cmp {vs : List Value} {k : Value → List Nat × List Nat} (hp : ∀ v ∈ vs, ∃ x y, IsPairS s.heap v x y ∧ k v = (x.cps.toList, y.cps.toList)) : Cmp prog w A s (tuples' true) (fun p => p.1 ∈ vs) (lt2 fun v u => pairLt (k v) (k u)) := by
  intro p q hm hm'
  obtain ⟨x, y, h1, k1⟩ := hp _ hm
  obtain ⟨x', y', h2, k2⟩ := hp _ hm'
  show wpAny (model prog w) A (keyLt' (tuples' true) p.1 q.1) (fun r s' => s' = s ∧ r = pairLt (k p.1) (k q.1)) (fun _ _ => False) s
  rw [k1, k2]
  unfold pairLt
  obtain ⟨a, o, t, u, n, e, ho, hc, hd⟩ := h1
  obtain ⟨a', o', t', u', n', e', ho', hc', hd'⟩ := h2
  rw [e, e']
  refine PySem.W.kat_lt ho hd ho' hd' ?_
  show PySem.W.KatLex prog w A true (decide (2 < 2)) _ [(.str x t, .str x' t'), (.str y u, .str y' u')] 0 s
  refine PySem.W.kat_cons (SeqAt.EqAt.str_str x t x' t' prog w _ _ ?_)
  have ext : ∀ {a b : Str}, a.cps.toList = b.cps.toList → a = b := fun {a b} h => by
    rw [← str_of a, ← str_of b, h]
  refine PySem.W.kat_go (fun e1 => ?_) (fun e1 => ?_)
  · have ex : x = x' := by simpa using e1
    refine PySem.W.kat_yes (PySem.W.kat_cons (SeqAt.EqAt.str_str y u y' u' prog w _ _ ?_))
    refine PySem.W.kat_go (fun e2 => ?_) (fun e2 => ?_)
    · have ey : y = y' := by simpa using e2
      have e3 : (if x.cps.toList = x'.cps.toList then decide (y.cps.toList < y'.cps.toList) else decide (x.cps.toList < x'.cps.toList)) = false := by
        rw [if_pos (by rw [ex]), ey]
        exact decide_eq_false (nlt_irrefl _)
      exact PySem.W.kat_yes (PySem.W.kat_nil ⟨rfl, e3.symm⟩)
    · have e3 : (if x.cps.toList = x'.cps.toList then decide (y.cps.toList < y'.cps.toList) else decide (x.cps.toList < x'.cps.toList)) = decide (y.cps.toList < y'.cps.toList) := if_pos (by rw [ex])
      refine PySem.W.kat_no (PySem.W.kat_one _ _ (PyProof.Rows.lt_str ?_))
      exact (show s = s ∧ decide (y.cps.toList < y'.cps.toList) = _ from ⟨rfl, e3.symm⟩)
  · have ex : ¬ x = x' := by simpa using e1
    have e3 : (if x.cps.toList = x'.cps.toList then decide (y.cps.toList < y'.cps.toList) else decide (x.cps.toList < x'.cps.toList)) = decide (x.cps.toList < x'.cps.toList) := if_neg fun z => ex (ext z)
    exact PySem.W.kat_no (PyProof.Rows.oneLt_str ⟨rfl, e3.symm⟩)
theorem firstsS {h : Heap} : ∀ {vs : List Value}, (∀ v ∈ vs, ∃ x y, IsPairS h v x y) → ∃ fs : List Value, PySem.W.KatTups h vs fs ∧ fs.length = vs.length ∧ ∀ f ∈ fs, ∃ x t, f = Value.str x t
  | [], _ => ⟨[], PySem.W.KatTups.nil, rfl, fun _ hm => by simp at hm⟩
  | v :: vs, hp => by
    obtain ⟨fs, h1, h2, h3⟩ := firstsS (vs := vs) fun v' hm => hp v' (List.mem_cons_of_mem _ hm)
    obtain ⟨x, y, a, o, t, u, n, e, ho, hc, hd⟩ := hp v (List.mem_cons_self ..)
    subst e
    refine ⟨.str x t :: fs, PySem.W.KatTups.cons ho hc hd rfl h1, by rw [List.length_cons, List.length_cons, h2], fun f hm => ?_⟩
    rcases List.mem_cons.mp hm with rfl | hm
    · exact ⟨x, t, rfl⟩
    · exact h3 f hm
open SrtO Srt in
theorem pairsS_sortableO {a : Addr} {vs : List Value} {k : Value → List Nat × List Nat} (h0 : 0 < vs.length) (hp : ∀ v ∈ vs, ∃ x y, IsPairS s.heap v x y ∧ k v = (x.cps.toList, y.cps.toList)) (ha : ∀ o, s.heap.get? a = some o → o.cls ≠ .type "tuple") :
    SortableO prog w A s a vs fun v u => pairLt (k v) (k u) := by
  intro h' keep
  have hp' : ∀ v ∈ vs, ∃ x y, IsPairS h' v x y ∧ k v = (x.cps.toList, y.cps.toList) := fun v hm => by
    obtain ⟨x, y, h1, h2⟩ := hp v hm
    exact ⟨x, y, h1.keeps fun b o e c => keep b o (fun z => by subst z; exact ha o e c) e, h2⟩
  obtain ⟨fs, h1, h2, h3⟩ := firstsS fun v hm => let ⟨x, y, h, _⟩ := hp' v hm; ⟨x, y, h⟩
  refine ⟨tuples' true, fun Q E hq => ?_, pairS_cmp hp'⟩
  refine PySem.W.kat_kind (T := .type "str") h1 (by omega) (fun f hm => ?_) (by rfl) ?_
  · obtain ⟨x, t, rfl⟩ := h3 f hm
    exact PySem.W.Looks.now
  · have e : (Value.type "str" != Value.type "tuple") = true := by first | decide +kernel | rfl | decide
    rw [e]
    exact hq
theorem swo_on {α β : Type} {lt : β → β → Bool} (O : SrtO.Swo lt) (f : α → β) : SrtO.Swo fun x y => lt (f x) (f y) := ⟨fun x y h => O.asym _ _ h, fun x y z h1 h2 => O.tr _ _ _ h1 h2⟩
open SrtO in
theorem sorted_pairsS {l : Addr} {vs : List Value} {E : Value → Shared → Prop} {k : Value → List Nat × List Nat} {Q : Value → Shared → Prop} (hl : s.heap.IsList l vs.toArray) (hz : vs.length ≤ sizeLine) (hp : ∀ v ∈ vs, ∃ x y, IsPairS s.heap v x y ∧ k v = (x.cps.toList, y.cps.toList))
    (h : ∀ (h' : Heap) (d : Addr) (out : List Value), Srtd (fun v u => pairLt (k v) (k u)) out → Stb (fun v u => pairLt (k v) (k u)) out vs → (∀ b o, s.heap.get? b = some o → h'.get? b = some o) → s.heap.objs.size ≤ d → (∃ n, h'.get? d = some (seqObj "list" out.toArray n)) → Q (.ref d) { s with heap := h' }) :
    wpAny (model prog w) A (call (.builtin "sorted") [.ref l]) Q E s := by
  refine sorted_ord (swo_on pairLt_swo k) hl hz (fun h2 h₁ a ha kk => ?_) fun out hs hb => ?_
  · refine pairsS_sortableO (s := { s with heap := h₁ }) (by omega) (fun v hm => ?_) fun o e => ?_
    · obtain ⟨x, y, h1, h2⟩ := hp v hm
      exact ⟨x, y, h1.keeps fun b o e _ => (kk b o e).2, h2⟩
    have e' : some o = some (seqObj "list" vs.toArray 0) := e.symm.trans ha
    cases e'
    intro c
    exact absurd (Value.type.inj c) (by decide)
  · exact h _ _ out hs hb (fun b o e => sortedAll_old e) (Nat.le_succ _) (sortedAll_at s.heap vs out.toArray)
end
theorem RVs.pairsOf : ∀ {ds : List D} {vs : List V} {ps : List (List Nat × List Nat)}, RVs K H ι ds vs → Py.pairsOf ds = some ps → ds = (ps.map fun p => D.tup [.str p.1, .str p.2]) ∧ ∀ x ∈ vs, ∃ (a : Addr) (p : List Nat × List Nat), x = .ref a ∧ SqT K H a [sv p.1, sv p.2]
  | [], _, _, h, e => by
    cases e
    cases h
    exact ⟨rfl, fun _ z => nomatch z⟩
  | d :: ds, _, ps, h, e => by
    unfold Py.pairsOf at e
    split at e
    · rename_i hd; cases hd
    · rename_i a b r hd
      cases hd
      obtain ⟨ps', e1, rfl⟩ := Option.map_eq_some_iff.mp e
      cases h with
      | cons h1 h2 =>
        obtain ⟨i1, i2⟩ := RVs.pairsOf h2 e1
        refine ⟨by rw [i1]; rfl, fun x hx => ?_⟩
        rcases List.mem_cons.mp hx with rfl | hx
        · cases h1 with | tup g1 g2 =>
          obtain ⟨v1, v2, rfl, r1, r2⟩ := g2.two
          cases r1; cases r2
          exact ⟨_, (a, b), rfl, g1⟩
        · exact i2 x hx
    · cases e
open Classical in
theorem bi_sorted : CallR X (.builtin "sorted") (rBi X.K .sorted) := by
  intro pins s σ H xs us Q I r ⟨ι, M, ds, d, M', hm, rs, hg, q⟩
  unfold opBi at hg
  split at hg
  all_goals first | (rename_i e _; cases e; done) | (rename_i e; cases e; done) | skip
  all_goals first | (cases hg; done) | skip
  · obtain ⟨v, rfl, r1⟩ := rs.one
    split at hg
    · rename_i hx
      obtain ⟨ys, hn, hg⟩ := Option.map_eq_some_iff.mp hg
      cases hg
      obtain ⟨a, vs, rfl, _, hH, hr⟩ := hm.lst hx r1
      unfold sortD at hn
      split at hn
      · rename_i ns hn'
        split at hn
        · rename_i h
          cases hn
          have e := hr.intsOf hn'
          subst e
          refine cr_sorted pins s σ H _ us Q I r ⟨_, _, rfl, SqL.of hH, h, fun ns' p h1 h2 n => ?_⟩
          rw [sortI_uniq h1 h2]
          exact q.lst hm (RVs.ofInts _) n
        · cases hn
      · split at hn
        · rename_i ss hs
          cases hn
          have e := hr.strsOf hs
          subst e
          refine cr_sortedSA pins s σ H _ us Q I r ⟨_, _, rfl, SqL.of hH, fun ns' p h1 h2 n => ?_⟩
          have e : ns'.map (fun x => x.cps.toList) = sortBy strLt ss := by
            refine sortBy_uniq strLt_swo strLt_tot ?_ (sortedS_srtd h2)
            have := h1.map fun x => x.cps.toList
            rw [List.map_map] at this
            exact this.trans (.of_eq (by
              conv => rhs; rw [← List.map_id ss]
              exact List.map_congr_left fun x _ => rfl))
          rw [strs_of, e]
          exact q.lst hm (RVs.ofStrs _) n
        · obtain ⟨ps, hp, rfl⟩ := Option.map_eq_some_iff.mp hn
          obtain ⟨e0, hv⟩ := hr.pairsOf hp
          subst e0
          obtain ⟨its, rv, hl, hz⟩ := I.list (SqL.of hH)
          obtain ⟨u, rfl, ru⟩ := vals1 r
          obtain rfl : u = Value.ref a := ru
          obtain ⟨e1, e2⟩ := refs_back rv fun x m => by
            obtain ⟨t, _, e, _⟩ := hv x m
            exact ⟨t, e⟩
          have pv : ∀ (t : Addr) (p : List Nat × List Nat), SqT X.K H t [sv p.1, sv p.2] → IsPairS s.heap (.ref t) ⟨p.1.toArray⟩ ⟨p.2.toArray⟩ := fun t p h => by
            obtain ⟨its2, r2, ⟨o, ho, hc, n, hd⟩, _⟩ := I.tuple h
            obtain ⟨u1, u2, rfl, ri, rj⟩ := vals2 r2
            obtain ⟨t1, rfl⟩ := ri
            obtain ⟨t2, rfl⟩ := rj
            exact ⟨t, o, t1, t2, n, rfl, ho, hc, hd⟩
          let k : Value → List Nat × List Nat := fun v => if h : ∃ p : List Nat × List Nat, IsPairS s.heap v ⟨p.1.toArray⟩ ⟨p.2.toArray⟩ then h.choose else ([], [])
          have kv : ∀ (v : Value) (p : List Nat × List Nat), IsPairS s.heap v ⟨p.1.toArray⟩ ⟨p.2.toArray⟩ → k v = p := fun v p h => by
            have ex : ∃ p : List Nat × List Nat, IsPairS s.heap v ⟨p.1.toArray⟩ ⟨p.2.toArray⟩ := ⟨p, h⟩
            have e : k v = ex.choose := dif_pos ex
            obtain ⟨a1, a2⟩ := ex.choose_spec.uniq h
            rw [e]
            refine Prod.ext ?_ ?_
            · have := congrArg (fun x : Str => x.cps.toList) a1
              simpa using this
            · have := congrArg (fun x : Str => x.cps.toList) a2
              simpa using this
          have ok : ∀ v ∈ its, ∃ p : List Nat × List Nat, IsPairS s.heap v ⟨p.1.toArray⟩ ⟨p.2.toArray⟩ ∧ k v = p := fun v hv2 => by
            obtain ⟨t, rfl⟩ := e2 v hv2
            have hmem : V.ref t ∈ vs := by rw [e1]; exact List.mem_map.mpr ⟨_, hv2, rfl⟩
            obtain ⟨t', p, e, ht⟩ := hv _ hmem
            cases e
            exact ⟨p, pv t p ht, kv _ _ (pv t p ht)⟩
          refine sorted_pairsS (k := k) hl.isList (by rw [← rv.length]; exact hz) (fun v hv2 => ?_) fun h' d out h1 h2 kp hd hn2 => ?_
          · obtain ⟨p, g1, g2⟩ := ok v hv2
            exact ⟨_, _, g1, g2⟩
          · have h3 : ∀ u ∈ out, ∃ a, u = Value.ref a := fun u hu => e2 u (h2.perm.mem_iff.mp hu)
            obtain ⟨n, hn2⟩ := hn2
            have hlen : (out.map backV).length ≤ sizeLine := by
              rw [List.length_map, h2.perm.length_eq, ← rv.length]
              exact hz
            -- the pairs in their new order
            have ek : its.map k = ps := by
              have key : ∀ {ps : List (List Nat × List Nat)} {vs : List V} {us : List Value}, RVs X.K H ι (ps.map fun p => D.tup [.str p.1, .str p.2]) vs → Vals vs us → us.map k = ps := by
                intro ps
                induction ps with
                | nil =>
                  intro vs us r1 r2
                  cases r1
                  cases r2
                  rfl
                | cons p ps ih =>
                  intro vs us r1 r2
                  cases r1 with | cons a1 a2 =>
                  cases a1 with | tup g1 g2 =>
                  cases r2 with | cons b1 b2 =>
                  obtain ⟨v1, v2, rfl, c1, c2⟩ := g2.two
                  cases c1; cases c2
                  rw [List.map_cons, ih a2 b2]
                  cases b1
                  rw [kv _ p (pv _ p g1)]
              exact key hr rv
            have es : out.map k = sortBy pairLt ps := by
              refine sortBy_uniq pairLt_swo pairLt_tot ?_ (SrtO.srtd_map h1)
              rw [← ek]
              exact h2.perm.map k
            refine ⟨.ref d, upd H d (.lst (out.map backV)), I.laid (t' := s.toks) kp hd ⟨hlen, out, n, vals_back h3, hn2⟩, rfl, q.lst hm ?_ (I.hok.fresh hd)⟩
            rw [← es]
            have hsub : ∀ u ∈ out, u ∈ its := fun u hu => h2.perm.mem_iff.mp hu
            clear hlen es hn2 h1 h2
            induction out with
            | nil => exact .nil
            | cons u out ih =>
              refine .cons ?_ (ih (fun x hx => h3 x (List.mem_cons_of_mem _ hx)) fun x hx => hsub x (List.mem_cons_of_mem _ hx))
              obtain ⟨t, rfl⟩ := h3 u List.mem_cons_self
              have hmem : V.ref t ∈ vs := by rw [e1]; exact List.mem_map.mpr ⟨_, hsub _ List.mem_cons_self, rfl⟩
              obtain ⟨t', p, e, ht⟩ := hv _ hmem
              cases e
              have e : k (.ref t) = p := kv _ _ (pv t p ht)
              rw [e]
              exact .tup ht (.cons (.str _) (.cons (.str _) .nil))
    · cases hg
theorem bi_max1 (hc : X.calm = true) : CallR X (.builtin "max") (rBi X.K .max1) := by
  intro pins s σ H xs us Q I r ⟨ι, M, ds, d, M', hm, rs, hg, q⟩
  unfold opBi at hg
  split at hg
  all_goals first | (rename_i e _; cases e; done) | (rename_i e; cases e; done) | skip
  all_goals first | (cases hg; done) | skip
  · obtain ⟨v, rfl, r1⟩ := rs.one
    split at hg
    · rename_i hx
      obtain ⟨ns, hn, hg⟩ := Option.bind_eq_some_iff.mp hg
      obtain ⟨a, vs, rfl, _, hH, hr⟩ := hm.lst hx r1
      have e := hr.intsOf hn
      subst e
      cases ns with
      | nil => cases hg
      | cons n ns =>
        cases hg
        refine cr_max hc pins s σ H _ us Q I r ⟨_, _, rfl, SqL.of hH, by simp, fun m h1 h2 => ?_⟩
        have key : ∀ (ns : List Int) (n : Int), maxI n ns ∈ n :: ns ∧ ∀ y ∈ n :: ns, y ≤ maxI n ns := by
          intro ns
          induction ns with
          | nil =>
            intro n
            exact ⟨List.mem_cons_self, fun y hy => by
              have : y = n := by simpa using hy
              subst this
              exact Int.le_refl _⟩
          | cons m ns ih =>
            intro n
            obtain ⟨i1, i2⟩ := ih (if m > n then m else n)
            refine ⟨?_, fun y hy => ?_⟩
            · rcases List.mem_cons.mp i1 with e | e
              · show maxI (if m > n then m else n) ns ∈ _
                rw [e]
                split
                · exact List.mem_cons_of_mem _ List.mem_cons_self
                · exact List.mem_cons_self
              · exact List.mem_cons_of_mem _ (List.mem_cons_of_mem _ e)
            · have h0 := i2 _ List.mem_cons_self
              show y ≤ maxI (if m > n then m else n) ns
              rcases List.mem_cons.mp hy with rfl | hy
              · refine Int.le_trans ?_ h0
                split <;> omega
              · rcases List.mem_cons.mp hy with rfl | hy
                · refine Int.le_trans ?_ h0
                  split <;> omega
                · exact i2 y (List.mem_cons_of_mem _ hy)
        have e : m = maxI n ns := Int.le_antisymm ((key ns n).2 m h1) (h2 _ (key ns n).1)
        subst e
        exact q.here hm (.int _)
    · cases hg
theorem bi_sum (hc : X.calm = true) : CallR X (.builtin "sum") (rBi X.K .sum) := by
  intro pins s σ H xs us Q I r ⟨ι, M, ds, d, M', hm, rs, hg, q⟩
  unfold opBi at hg
  split at hg
  all_goals first | (rename_i e _; cases e; done) | (rename_i e; cases e; done) | skip
  all_goals first | (cases hg; done) | skip
  · obtain ⟨v, rfl, r1⟩ := rs.one
    split at hg
    · rename_i hx
      obtain ⟨ns, hn, hg⟩ := Option.map_eq_some_iff.mp hg
      obtain ⟨a, vs, rfl, _, hH, hr⟩ := hm.lst hx r1
      have e := hr.intsOf hn
      subst e
      cases hg
      exact cr_sum hc pins s σ H _ us Q I r ⟨_, _, rfl, SqL.of hH, q.here hm (.int _)⟩
    · cases hg
/-- a value's type, by name -/
def tyD : D → Option String
  | .non => some "NoneType" | .bl _ => some "bool" | .int _ => some "int" | .str _ => some "str" | .tup _ => some "tuple" | _ => none
theorem tyD_ok {d : D} {v : V} {T : String} (r : RV K H ι d v) (e : tyD d = some T) : TyX K H v (.type T) := by
  cases r with
  | non => cases e; exact .base .non
  | bl b => cases e; exact .base (.bl b)
  | int i => cases e; exact .base (.int i)
  | str s => cases e; exact .base (.str _)
  | tup a b =>
    cases e
    rcases a with (a | ⟨o, a⟩) | ⟨o, its, n, h1, h2, _⟩
    · exact .base (.tup a)
    · exact .fTuple a
    · exact .kTuple h1 h2
  | rol a b => cases e
  | obj a => cases e
def isName : Bi → Option String
  | .isInt => some "int" | .isStr => some "str" | .isTup => some "tuple" | .isBool => some "bool" | .isDict => some "dict" | .isList => some "list" | _ => none
theorem bi_isi {b : Bi} {T : String} (hT : isName b = some T) : CallR X (.builtin "isinstance") (fun xs H Q => ∃ x, xs = [x, .ty T] ∧ rBi X.K b [x] H Q) := by
  intro pins s σ H xs us Q I r ⟨x, e, ι, M, ds, d, M', hm, rs, hg, q⟩
  subst e
  have main : ∀ (dd : D) (k : Bool) (S : String), tyD dd = some S → RV X.K H ι dd x → kitB S T = some k → d = .bl k → M' = M → wpAny (model X.prog X.w) X.A (call (.builtin "isinstance") us) (EP X pins σ Q) X.xe s := fun dd k S h1 h2 h3 h4 h5 => by
    subst h4 h5
    exact call_isi pins s σ H _ us Q I r ⟨x, .ty T, .type S, .type T, k, rfl, .ty T, tyD_ok h2 h1, kit_ty h3, q.here hm (.bl _)⟩
  have main2 : ∀ (n : Nat) (k0 k : Bool), RV X.K H ι (.obj n) x → objDict M n = some k0 → kitB (if k0 then "dict" else "list") T = some k → d = .bl k → M' = M → wpAny (model X.prog X.w) X.A (call (.builtin "isinstance") us) (EP X pins σ Q) X.xe s := fun n k0 k h1 h2 h3 h4 h5 => by
    subst h4 h5
    have ty : TyX X.K H x (.type (if k0 then "dict" else "list")) := by
      unfold objDict at h2
      split at h2
      · rename_i xs hx
        cases h2
        obtain ⟨a, vs, rfl, _, hH, _⟩ := hm.lst hx h1
        exact .base (.lst hH)
      · rename_i xs hx
        cases h2
        obtain ⟨a, vs, rfl, _, hH, _⟩ := hm.dK hx h1
        exact .base (.dK hH)
      · cases h2
    exact call_isi pins s σ H _ us Q I r ⟨x, .ty T, .type _, .type T, k, rfl, .ty T, ty, kit_ty h3, q.here hm (.bl _)⟩
  match ds, rs, hg with
  | [], _, hg => cases b <;> simp [opBi] at hg <;> simp [isName] at hT
  | _ :: _ :: _, rs, hg => cases rs with | cons _ t => cases t
  | [dd], rs, hg =>
    obtain ⟨v, e, r1⟩ := rs.one
    cases e
    cases b <;> simp only [isName] at hT <;> first | (cases hT; done) | skip
    all_goals (cases hT; cases dd <;> simp only [opBi] at hg <;> first
      | (cases hg; done)
      | (cases hg; exact main _ _ _ rfl r1 (by decide +kernel) rfl rfl)
      | (obtain ⟨k0, e0, e1⟩ := Option.map_eq_some_iff.mp hg; cases k0 <;> cases e1 <;> exact main2 _ _ _ r1 e0 (by decide +kernel) rfl rfl))

/-! ### methods -/
def rMe (K : Fr) (m : Me) : V → List V → Hp → VK → Prop := fun x xs H Q => ∃ ι M o ds d M', RM K H ι M ∧ RV K H ι o x ∧ RVs K H ι ds xs ∧ opMe m o ds M = some (d, M') ∧ Fol K H ι M' d Q
theorem me_append : MtM X "list.append" (rMe X.K .append) := by
  intro pins s σ H x xs v us Q I rx r ⟨ι, M, o, ds, d, M', hm, ro, rs, hg, q⟩
  unfold opMe at hg
  split at hg
  all_goals first | (rename_i e _ _; cases e; done) | (rename_i e; cases e; done) | skip
  all_goals first | (cases hg; done) | skip
  · obtain ⟨y, rfl, r1⟩ := rs.one
    split at hg
    · rename_i xs0 hx
      obtain ⟨a, vs, rfl, ha, hH, hr⟩ := hm.lst hx ro
      split at hg
      · rename_i h
        cases hg
        have hw := hr.append (RVs.cons r1 RVs.nil)
        obtain ⟨e, m⟩ := hm.set (o := .lst (vs ++ [y])) (m := .lst _) hx ha ⟨_, rfl, hw⟩
        exact mt_append pins s σ H _ _ v us Q I rx r ⟨_, _, _, rfl, rfl, hH, by rw [← hr.length]; exact h, q _ _ _ e m .non⟩
      · cases hg
    · cases hg
theorem me_extend : MtM X "list.extend" (rMe X.K .extend) := by
  intro pins s σ H x xs v us Q I rx r ⟨ι, M, o, ds, d, M', hm, ro, rs, hg, q⟩
  unfold opMe at hg
  split at hg
  all_goals first | (rename_i e _ _; cases e; done) | (rename_i e; cases e; done) | skip
  all_goals first | (cases hg; done) | skip
  · obtain ⟨y, rfl, r1⟩ := rs.one
    split at hg
    · rename_i xs0 ys0 hx hy
      obtain ⟨a, vs, rfl, ha, hH, hr⟩ := hm.lst hx ro
      obtain ⟨b, ws, rfl, hb, hG, hw⟩ := hm.lst hy r1
      split at hg
      · rename_i h
        cases hg
        obtain ⟨e, m⟩ := hm.set (o := .lst (vs ++ ws)) (m := .lst (xs0 ++ ys0)) hx ha ⟨_, rfl, hr.append hw⟩
        exact mt_extend pins s σ H _ _ v us Q I rx r ⟨_, _, _, _, rfl, rfl, hH, hG, by rw [← hr.length, ← hw.length]; exact h, q _ _ _ e m .non⟩
      · cases hg
    · cases hg
theorem me_pop : MtM X "list.pop" (rMe X.K .pop) := by
  intro pins s σ H x xs v us Q I rx r ⟨ι, M, o, ds, d, M', hm, ro, rs, hg, q⟩
  unfold opMe at hg
  split at hg
  all_goals first | (rename_i e _ _; cases e; done) | (rename_i e; cases e; done) | skip
  all_goals first | (cases hg; done) | skip
  · cases rs
    split at hg
    · rename_i xs0 hx
      obtain ⟨a, vs, rfl, ha, hH, hr⟩ := hm.lst hx ro
      obtain ⟨z, hz, hg⟩ := Option.map_eq_some_iff.mp hg
      cases hg
      obtain ⟨w, e1, e2⟩ := hr.get hz
      obtain ⟨e, m⟩ := hm.set (o := .lst vs.dropLast) (m := .lst xs0.dropLast) hx ha ⟨_, rfl, hr.dropLast⟩
      exact mt_pop pins s σ H _ _ v us Q I rx r ⟨_, _, _, rfl, rfl, hH, by rw [← hr.length]; exact e1, q _ _ _ e m (e2.up e)⟩
    · cases hg
theorem sumLen_strs (ss : List (List Nat)) : (((ss.map fun s => (⟨s.toArray⟩ : Str)).map (·.length)).sum) = sumLen ss := by
  induction ss with
  | nil => rfl
  | cons s r ih => simp only [sumLen, List.map_cons, List.sum_cons, Str.length] at ih ⊢; rw [ih]; simp
theorem me_join : MtR X "str.join" (rMe X.K .join) := by
  intro pins s σ H x xs v us Q I rx r ⟨ι, M, o, ds, d, M', hm, ro, rs, hg, q⟩
  unfold opMe at hg
  split at hg
  all_goals first | (rename_i e _ _; cases e; done) | (rename_i e; cases e; done) | skip
  all_goals first | (cases hg; done) | skip
  · obtain ⟨y, rfl, r1⟩ := rs.one
    cases ro
    split at hg
    · rename_i hx
      obtain ⟨ss, hs, hg⟩ := Option.bind_eq_some_iff.mp hg
      obtain ⟨a, vs, rfl, h1, hr⟩ := itemsOf_ok hm r1 hx
      have e := hr.strsOf hs
      subst e
      split at hg
      · rename_i h
        cases hg
        refine mt_join pins s σ H _ _ v us Q I rx r ⟨_, _, _, rfl, rfl, h1, ?_, ?_⟩
        · rw [sumLen_strs]; simpa [Str.length] using h
        · have e : Txt.join (⟨([] : List Nat).toArray⟩ : Str) (ss.map fun s => (⟨s.toArray⟩ : Str)) = ⟨ss.flatten.toArray⟩ := by
            rw [show (⟨([] : List Nat).toArray⟩ : Str) = ⟨#[]⟩ from rfl, txt_join]
            simp [List.map_map, Function.comp_def]
          rw [e]
          exact q.here hm (.str _)
      · cases hg
    · cases hg
end
end Py

set_option Elab.async false
set_option autoImplicit false
set_option linter.all false
set_option maxRecDepth 100000
set_option maxHeartbeats 4000000
/-! E6: judgements over data; the parts that hang on no program. -/
namespace Py
open PySem PySem.Spec PyProof.Rows L2

/-- an exception as it flies -/
def RX (K : Fr) (ca : Nat → Addr × List Str) (H : Hp) (ι : List Addr) (x : Exn) (c : Value) (d : Option Addr) : Prop :=
  c = .ref (ca x.cls).1 ∧ (x.fs = [] ∨ ∃ dx vs, d = some dx ∧ H dx = some (.xd vs) ∧ vs.map (·.1) = (ca x.cls).2 ∧ RVs K H ι x.fs (vs.map (·.2)))
def post {α : Type} (K : Fr) (ca : Nat → Addr × List Str) (W : WX) (σ : L2.St) (H : Hp) (ι : List Addr) (r : Res α) (C : α → Mem → Hp → List Addr → Prop) : Prop := match r with
  | .ok a M' => ∀ H' ι', Ext H ι H' ι' → RM K H' ι' M' → C a M' H' ι'
  | .exc x M' => ∀ H' ι' c d, Ext H ι H' ι' → RM K H' ι' M' → RX K ca H' ι' x c d → W c d σ H'
  | .bad => False
section
variable {α β : Type} {K : Fr} {ca : Nat → Addr × List Str} {W : WX} {σ : L2.St} {H H1 : Hp} {ι ι1 : List Addr} {r : Res α} {C C' : α → Mem → Hp → List Addr → Prop} {M : Mem}
theorem post_up (h : post K ca W σ H ι r C) (e : Ext H ι H1 ι1) : post K ca W σ H1 ι1 r C := by
  cases r with
  | ok a M' => exact fun H' ι' e' hm => h H' ι' (e.trans e') hm
  | exc x M' => exact fun H' ι' c d e' hm rx => h H' ι' c d (e.trans e') hm rx
  | bad => exact h
theorem post_bind {k : α → Mem → Res β} {C : β → Mem → Hp → List Addr → Prop} (h : post K ca W σ H ι (r.bind k) C) : post K ca W σ H ι r fun a M' H' ι' => post K ca W σ H' ι' (k a M') C := by
  cases r with
  | ok a M' => exact fun H' ι' e' hm => post_up (show post K ca W σ H ι (k a M') C from h) e'
  | exc x M' => exact h
  | bad => exact h
theorem post_imp (h : post K ca W σ H ι r C) (f : ∀ a M' H' ι', Ext H ι H' ι' → RM K H' ι' M' → C a M' H' ι' → C' a M' H' ι') : post K ca W σ H ι r C' := by
  cases r with
  | ok a M' => exact fun H' ι' e' hm => f a M' H' ι' e' hm (h H' ι' e' hm)
  | exc x M' => exact h
  | bad => exact h
theorem post_ok {a : α} (h : post K ca W σ H ι (.ok a M) C) (hm : RM K H ι M) : C a M H ι := h H ι (Ext.refl H ι) hm
theorem post_ofO {o : Option (α × Mem)} (h : post K ca W σ H ι (Res.ofO o) C) : ∃ a M', o = some (a, M') ∧ ∀ H' ι', Ext H ι H' ι' → RM K H' ι' M' → C a M' H' ι' := by
  cases o with
  | none => exact h.elim
  | some p => exact ⟨p.1, p.2, rfl, h⟩
theorem post_ofV {o : Option α} (h : post K ca W σ H ι (Res.ofV o M) C) (hm : RM K H ι M) : ∃ a, o = some a ∧ C a M H ι := by
  cases o with
  | none => exact h.elim
  | some p => exact ⟨p, rfl, h H ι (Ext.refl H ι) hm⟩
end

def CD (K : Fr) (Q : VK) : D → Mem → Hp → List Addr → Prop := fun d _ H' ι' => ∀ v, RV K H' ι' d v → Q v H'
def tE (K : Fr) (ca : Nat → Addr × List Str) (W : WX) (f : Env → Mem → Res D) : TE := fun σ H Q => ∃ ι env M, RS K H ι σ env ∧ RM K H ι M ∧ post K ca W σ H ι (f env M) (CD K Q)
def tA (K : Fr) (ca : Nat → Addr × List Str) (W : WX) (f : Env → Mem → Res (List D)) : TA := fun σ H Q => ∃ ι env M, RS K H ι σ env ∧ RM K H ι M ∧ post K ca W σ H ι (f env M) fun ds _ H' ι' => ∀ vs, RVs K H' ι' ds vs → Q vs H'
def tT (K : Fr) (ca : Nat → Addr × List Str) (W : WX) (f : Env → Mem → Res Bool) : TT := fun σ H Q => ∃ ι env M, RS K H ι σ env ∧ RM K H ι M ∧ post K ca W σ H ι (f env M) fun b _ H' _ => Q b H'
def tO (K : Fr) (ca : Nat → Addr × List Str) (W : WX) (f : Env → Mem → Res (Option Int)) : TO := fun σ H Q => ∃ ι env M, RS K H ι σ env ∧ RM K H ι M ∧ post K ca W σ H ι (f env M) fun b _ H' _ => Q b H'
/-- from a value already there -/
def tV (K : Fr) (ca : Nat → Addr × List Str) (W : WX) (f : D → Env → Mem → Res D) : V → TE := fun x σ H Q => ∃ ι env M d, RS K H ι σ env ∧ RM K H ι M ∧ RV K H ι d x ∧ post K ca W σ H ι (f d env M) (CD K Q)
/-- how a walk lies -/
inductive RW (K : Fr) : Hp → List Addr → Wk → It → Prop
  | tup {H : Hp} {ι : List Addr} {a : Addr} {vs : List V} {ds : List D} : SqT K H a vs → RVs K H ι ds vs → RW K H ι (.seq ds) (Itt K a)
  | rol {H : Hp} {ι : List Addr} {a : Addr} {vs : List V} {ds : List D} : SqR K H a vs → RVs K H ι ds vs → RW K H ι (.seq ds) (Itl K a)
  | str {H : Hp} {ι : List Addr} (s : List Nat) : RW K H ι (.seq (s.map fun c => .str [c])) (Its ⟨s.toArray⟩)
  | rng {H : Hp} {ι : List Addr} (lo : Int) (n : Nat) : RW K H ι (.seq ((List.range n).map fun (k : Nat) => D.int (lo + (k : Int)))) (Itr lo n)
  | keys {H : Hp} {ι : List Addr} {a : Addr} {o : Obj} {vs : List (Key × V)} {kvs : List (Key × D)} : H a = some (.frz o (.dK vs)) → RKV K H ι kvs vs → RW K H ι (.seq (kvs.map fun kv => keyD kv.1)) (Itk a o vs)
  | live {H : Hp} {ι : List Addr} {n : Nat} {a : Addr} : ι[n]? = some a → RW K H ι (.live n) (Itl K a)
def tI (K : Fr) (ca : Nat → Addr × List Str) (W : WX) (f : Env → Mem → Res Wk) : TI := fun σ H R => ∃ ι env M, RS K H ι σ env ∧ RM K H ι M ∧ post K ca W σ H ι (f env M) fun w _ H' ι' => ∀ J, RW K H' ι' w J → R J H'

section
variable {X : Cx} {e : Expr} {es : List Expr}
theorem _root_.L2.PE.weak {t t' : TE} (h : PE X e t) (w : ∀ σ H Q, t' σ H Q → t σ H Q) : PE X e t' := ⟨fun pins s σ H Q I q => h.run pins s σ H Q I (w σ H Q q)⟩
theorem _root_.L2.PA.weak {t t' : TA} (h : PA X es t) (w : ∀ σ H Q, t' σ H Q → t σ H Q) : PA X es t' := ⟨fun pos pins s σ H Q I q => h.run pos pins s σ H Q I (w σ H Q q)⟩
theorem _root_.L2.PT.weak {t t' : TT} (h : PT X e t) (w : ∀ σ H Q, t' σ H Q → t σ H Q) : PT X e t' := ⟨fun pins s σ H Q I q => h.run pins s σ H Q I (w σ H Q q)⟩
theorem _root_.L2.PW.weak {t t' : TT} (h : PW X e t) (w : ∀ σ H Q, t' σ H Q → t σ H Q) : PW X e t' := ⟨fun wh pins s σ H Q I q => h.run wh pins s σ H Q I (w σ H Q q)⟩
theorem _root_.L2.PO.weak {o : Option Expr} {t t' : TO} (h : PO X o t) (w : ∀ σ H Q, t' σ H Q → t σ H Q) : PO X o t' := ⟨fun pins s σ H Q I q => h.run pins s σ H Q I (w σ H Q q)⟩
theorem _root_.L2.PI.weak {tg : Expr} {t t' : TI} (h : PI X tg e t) (w : ∀ σ H R, t' σ H R → t σ H R) : PI X tg e t' := ⟨fun pins s σ H R I q => h.run pins s σ H R I (w σ H R q)⟩

/-- a value handed on -/
theorem CD.here {K : Fr} {Q : VK} {d : D} {M : Mem} {H : Hp} {ι : List Addr} {v : V} (h : CD K Q d M H ι) (r : RV K H ι d v) : Q v H := h v r

/-! ### chains -/
/-- the further links of a chain, from the value of the one before -/
structure PCh (X : Cx) (ops : List CmpOp) (rs : List Expr) (t : V → TE) : Prop where
  run : ∀ (pos : Pos) (pins : List (Addr × Obj)) (s : Shared) (σ : L2.St) (H : Hp) (Q : VK) (x : V) (v : Value), Inv X pins σ H s → RelV x v → t x σ H Q → wpAny (model X.prog X.w) X.A (compareChain pos v ops (evalEach rs X.env)) (EP X pins σ Q) X.xe s
  tst : ∀ (pos : Pos) (pins : List (Addr × Obj)) (s : Shared) (σ : L2.St) (H : Hp) (Q : Bool → Hp → Prop) (x : V) (v : Value), Inv X pins σ H s → RelV x v → t x σ H (fun z H' => ∃ k, z = .bl k ∧ Q k H') →
    wpAny (model X.prog X.w) X.A (testChain pos v ops (evalEach rs X.env)) (TP X pins σ Q) X.xe s
def tChL (r : R2) (te : TE) : V → TE := fun x σ H Q => te σ H fun y H1 => r x y H1 Q
def tChM (r : R2) (te : TE) (t : V → TE) : V → TE := fun x σ H Q => te σ H fun y H1 => r x y H1 fun z H2 => ∃ k, z = .bl k ∧ (if k = true then t y σ H2 Q else Q (.bl false) H2)
theorem pch_last {op : CmpOp} {r : R2} {te : TE} (ho : OpR X (compareOp op) r) (he : PE X e te) : PCh X [op] [e] (tChL r te) := by
  refine ⟨fun pos pins s σ H Q x v I rx h => ?_, fun pos pins s σ H Q x v I rx h => ?_⟩
  · exact chain_last (thn (he.run pins s σ H _ I h) fun u s1 ⟨y, H1, I1, ry, q1⟩ => ho pins s1 σ H1 x y v u Q I1 rx ry q1)
  · refine test_last (thn (he.run pins s σ H _ I h) fun u s1 ⟨y, H1, I1, ry, q1⟩ => thn (ho pins s1 σ H1 x y v u _ I1 rx ry q1) fun d s2 ⟨z, H2, I2, rz, k, ek, q2⟩ => ?_)
    subst ek
    cases rz
    exact wpAny_truthy_bool ⟨H2, I2, q2⟩
theorem pch_more {op op' : CmpOp} {ops : List CmpOp} {e' : Expr} {r : R2} {te : TE} {t : V → TE} (ho : OpR X (compareOp op) r) (he : PE X e te) (hc : PCh X (op' :: ops) (e' :: es) t) : PCh X (op :: op' :: ops) (e :: e' :: es) (tChM r te t) := by
  refine ⟨fun pos pins s σ H Q x v I rx h => ?_, fun pos pins s σ H Q x v I rx h => ?_⟩
  · refine chain_link (thn (he.run pins s σ H _ I h) fun u s1 ⟨y, H1, I1, ry, q1⟩ => thn (ho pins s1 σ H1 x y v u _ I1 rx ry q1) fun d s2 ⟨z, H2, I2, rz, k, ek, q2⟩ => ?_)
    subst ek
    cases rz
    refine wpAny_truthy_bool ?_
    cases k with
    | false => exact ite_ff ⟨.bl false, H2, I2, rfl, q2⟩
    | true => exact ite_tt (hc.run pos pins s2 σ H2 Q y u I2 ry q2)
  · refine test_link (thn (he.run pins s σ H _ I h) fun u s1 ⟨y, H1, I1, ry, q1⟩ => thn (ho pins s1 σ H1 x y v u _ I1 rx ry q1) fun d s2 ⟨z, H2, I2, rz, k, ek, q2⟩ => ?_)
    subst ek
    cases rz
    refine wpAny_truthy_bool ?_
    cases k with
    | false =>
      obtain ⟨k', e', q'⟩ := q2
      cases e'
      exact ite_ff ⟨H2, I2, q'⟩
    | true => exact ite_tt (hc.tst pos pins s2 σ H2 Q y u I2 ry q2)
theorem pe_chainN {a b c : Expr} {op op' : CmpOp} {ops : List CmpOp} {pos : Pos} {r : R2} {ta tb : TE} {t : V → TE} (ho : OpR X (compareOp op) r) (ha : PE X a ta) (hb : PE X b tb) (hc : PCh X (op' :: ops) (c :: es) t)
    (hm : lastMarks (op :: op' :: ops) (b :: c :: es) = false) : PE X (.Compare a (op :: op' :: ops) (b :: c :: es) pos) (fun σ H Q => ta σ H fun x H1 => tChM r tb t x σ H1 Q) := by
  refine ⟨fun pins s σ H Q I h => ?_⟩
  exact Compare_chain (thn (ha.run pins s σ H _ I h) fun v s1 ⟨x, H1, I1, rx, q1⟩ => (pch_more ho hb hc).run pos pins s1 σ H1 Q x v I1 rx q1) hm
theorem pt_chainN {a b c : Expr} {op op' : CmpOp} {ops : List CmpOp} {pos : Pos} {r : R2} {ta tb : TE} {t : V → TE} (ho : OpR X (compareOp op) r) (ha : PE X a ta) (hb : PE X b tb) (hc : PCh X (op' :: ops) (c :: es) t)
    (hm : lastMarks (op :: op' :: ops) (b :: c :: es) = false) : PT X (.Compare a (op :: op' :: ops) (b :: c :: es) pos) (fun σ H Q => ta σ H fun x H1 => tChM r tb t x σ H1 fun z H' => ∃ k, z = .bl k ∧ Q k H') := by
  refine ⟨fun pins s σ H Q I h => ?_⟩
  exact isTrue_chain (thn (ha.run pins s σ H _ I h) fun v s1 ⟨x, H1, I1, rx, q1⟩ => (pch_more ho hb hc).tst pos pins s1 σ H1 Q x v I1 rx q1) hm

/-! ### what is walked -/
theorem pi_any {tg : Expr} {te : TE} (he : PE X e te) : PI X tg e (fun σ H R => te σ H fun x H1 => (∃ a, x = .ref a ∧ (∃ xs, SqL X.K H1 a xs) ∧ R (Itl X.K a) H1) ∨ (∃ a, x = .ref a ∧ (∃ xs, SqT X.K H1 a xs) ∧ R (Itt X.K a) H1) ∨
    ∃ z, x = .str z ∧ R (Its z) H1) := by
  refine ⟨fun pins s σ H R I h => ?_⟩
  refine thn (he.run pins s σ H _ I h) fun v s1 ⟨x, H1, I1, r1, q1⟩ => ?_
  rcases q1 with ⟨a, e, ⟨xs, hq⟩, q⟩ | ⟨a, e, ⟨xs, hq⟩, q⟩ | ⟨z, e, q⟩
  · subst e
    cases r1
    obtain ⟨its, rv, p, hz⟩ := I1.list hq
    refine wpAny_pyIter_list p.isList ?_
    refine ⟨s1.heap.objs.size, [s1.heap.objs.size], _, _, H1, rfl, I1.kept (t' := s1.toks) fun b o e => Heap.get?_push_of_some _ e, turn_list a _, ⟨_, Heap.get?_push_size _ rfl, rfl, rfl⟩, fun b hb => ?_, q⟩
    have e : b = s1.heap.objs.size := by simpa using hb
    subst e
    exact I1.fpOk (Nat.le_refl _) (I1.hok.fresh (Nat.le_refl _))
  · subst e
    cases r1
    obtain ⟨its, rv, p, hz⟩ := I1.tuple hq
    refine wpAny_pyIter_tuple (show s1.heap.IsTuple a its.toArray from p) ?_
    refine ⟨s1.heap.objs.size, [s1.heap.objs.size], _, _, H1, rfl, I1.kept (t' := s1.toks) fun b o e => Heap.get?_push_of_some _ e, turn_tuple a _, ⟨_, Heap.get?_push_size _ rfl, rfl, rfl⟩, fun b hb => ?_, q⟩
    have e : b = s1.heap.objs.size := by simpa using hb
    subst e
    exact I1.fpOk (Nat.le_refl _) (I1.hok.fresh (Nat.le_refl _))
  · subst e
    obtain ⟨t, rfl⟩ := r1
    cases ha : z.cps.all (· < 128)
    · exact wpAny_pyIter_wide ha (pi_one (tk := s1.toks) I1 _ (turn_str _ z t "str_iterator" (.inr rfl)) ⟨_, Heap.get?_push_size _ rfl, rfl, rfl⟩ q)
    · exact wpAny_pyIter_ascii ha (pi_one (tk := s1.toks) I1 _ (turn_str _ z t "str_ascii_iterator" (.inl rfl)) ⟨_, Heap.get?_push_size _ rfl, rfl, rfl⟩ q)
end

/-! ### what is left is dropped -/
section
variable {K : Fr} {H H' : Hp} {ι ι' : List Addr} {M M' : Mem}
mutual
theorem RV.bel : ∀ (d : D) (v : V), RV K H ι d v → Py.bel ι.length d = true
  | .non, _, _ => rfl
  | .bl _, _, _ => rfl
  | .int _, _, _ => rfl
  | .str _, _, _ => rfl
  | .tup ds, _, h => by
    cases h with
    | tup h1 h2 => exact RVs.bels ds _ h2
  | .rol ds, _, h => by
    cases h with
    | rol h1 h2 => exact RVs.bels ds _ h2
  | .obj n, _, h => by
    cases h with
    | obj h1 => exact decide_eq_true (List.getElem?_eq_some_iff.mp h1).1
theorem RVs.bels : ∀ (ds : List D) (vs : List V), RVs K H ι ds vs → Py.bels ι.length ds = true
  | [], _, _ => rfl
  | d :: ds, _, h => by
    cases h with
    | cons h1 h2 =>
      show (Py.bel _ d && Py.bels _ ds) = true
      rw [RV.bel d _ h1, RVs.bels ds _ h2]; rfl
end
mutual
theorem RV.sw {n : Nat} (hw : ∀ k a, k < n → ι[k]? = some a → ι'[k]? = some a) : ∀ (d : D) (v : V), RV K H ι d v → Py.bel n d = true → RV K H ι' d v
  | .non, _, h, _ => by cases h; exact .non
  | .bl _, _, h, _ => by cases h; exact .bl _
  | .int _, _, h, _ => by cases h; exact .int _
  | .str _, _, h, _ => by cases h; exact .str _
  | .tup ds, _, h, b => by
    cases h with
    | tup h1 h2 => exact .tup h1 (RVs.sw hw ds _ h2 b)
  | .rol ds, _, h, b => by
    cases h with
    | rol h1 h2 => exact .rol h1 (RVs.sw hw ds _ h2 b)
  | .obj n, _, h, b => by
    cases h with
    | obj h1 => exact .obj (hw _ _ (of_decide_eq_true b) h1)
theorem RVs.sw {n : Nat} (hw : ∀ k a, k < n → ι[k]? = some a → ι'[k]? = some a) : ∀ (ds : List D) (vs : List V), RVs K H ι ds vs → Py.bels n ds = true → RVs K H ι' ds vs
  | [], _, h, _ => by cases h; exact .nil
  | d :: ds, _, h, b => by
    cases h with
    | cons h1 h2 =>
      have b : (Py.bel n d && Py.bels n ds) = true := b
      rw [Bool.and_eq_true] at b
      exact .cons (RV.sw hw d _ h1 b.1) (RVs.sw hw ds _ h2 b.2)
end
theorem RKV.bels {κ : Type} : ∀ {a : List (κ × D)} {b : List (κ × V)}, RKV K H ι a b → Py.bels ι.length (a.map (·.2)) = true
  | [], _, _ => rfl
  | p :: a, _, h => by
    cases h with
    | cons h1 h2 =>
      show (Py.bel _ p.2 && Py.bels _ (a.map (·.2))) = true
      rw [RV.bel _ _ h1.2, RKV.bels h2]; rfl
theorem RKV.sw {κ : Type} {n : Nat} (hw : ∀ k a, k < n → ι[k]? = some a → ι'[k]? = some a) : ∀ {a : List (κ × D)} {b : List (κ × V)}, RKV K H ι a b → Py.bels n (a.map (·.2)) = true → RKV K H ι' a b
  | [], _, h, _ => by cases h; exact .nil
  | p :: a, _, h, b => by
    cases h with
    | cons h1 h2 =>
      have b : (Py.bel n p.2 && Py.bels n (a.map (·.2))) = true := b
      rw [Bool.and_eq_true] at b
      exact .cons ⟨h1.1, RV.sw hw _ _ h1.2 b.1⟩ (RKV.sw hw h2 b.2)
theorem RO.bel {m : MO} {o : HO} (h : RO K H ι m o) : Py.belM ι.length m = true := by
  cases m with
  | lst ds => obtain ⟨vs, a, b⟩ := h; exact RVs.bels _ _ b
  | dK ds => obtain ⟨vs, a, b⟩ := h; exact RKV.bels b
  | dT ds => obtain ⟨vs, a, b⟩ := h; exact RKV.bels b
  | dL ds => obtain ⟨od, vs, a, b⟩ := h; exact RKV.bels b
theorem RO.sw {n : Nat} (hw : ∀ k a, k < n → ι[k]? = some a → ι'[k]? = some a) {m : MO} {o : HO} (h : RO K H ι m o) (q : Py.belM n m = true) : RO K H ι' m o := by
  cases m with
  | lst ds => obtain ⟨vs, a, b⟩ := h; exact ⟨vs, a, RVs.sw hw _ _ b q⟩
  | dK ds => obtain ⟨vs, a, b⟩ := h; exact ⟨vs, a, RKV.sw hw b q⟩
  | dT ds => obtain ⟨vs, a, b⟩ := h; exact ⟨vs, a, RKV.sw hw b q⟩
  | dL ds => obtain ⟨od, vs, a, b⟩ := h; exact ⟨od, vs, a, RKV.sw hw b q⟩
theorem RS.sw {n : Nat} (hw : ∀ k a, k < n → ι[k]? = some a → ι'[k]? = some a) {σ : L2.St} {env : Env} (h : RS K H ι σ env) (q : Py.belE n env = true) : RS K H ι' σ env := by
  refine ⟨h.len, fun i d e => ?_⟩
  obtain ⟨v, e1, r⟩ := h.at_ i d e
  refine ⟨v, e1, RV.sw hw _ _ r ?_⟩
  clear h e1 r
  induction env generalizing i with
  | nil => simp at e
  | cons o env ih =>
    cases o with
    | none =>
      cases i with
      | zero => simp at e
      | succ i => exact ih q i (by simpa using e)
    | some x =>
      have q : (Py.bel n x && Py.belE n env) = true := q
      rw [Bool.and_eq_true] at q
      cases i with
      | zero =>
        have : x = d := by simpa using e
        subst this
        exact q.1
      | succ i => exact ih q.2 i (by simpa using e)
theorem take_sw {L : Nat} : ∀ k a, k < L → ι[k]? = some a → (ι.take L)[k]? = some a := fun k a hk h => by rw [List.getElem?_take_of_lt hk]; exact h
theorem belM_of (hm : RM K H ι M) (hm' : RM K H' ι' M') (ok : TidyOk M M') {n : Nat} {m : MO} (hn : n < M.length) (h : M'[n]? = some m) : Py.belM M.length m = true := by
  rcases ok.2 n hn with h1 | ⟨o, h1, h2⟩
  · rw [h] at h1
    obtain ⟨a, o, _, _, r⟩ := hm.at_ n m h1.symm
    rw [← hm.len]
    exact r.bel
  · rw [h] at h1
    cases h1
    exact h2
theorem RM.tidy (hm : RM K H ι M) (hm' : RM K H' ι' M') (e : Ext H ι H' ι') (ok : TidyOk M M') : RM K H' (ι'.take M.length) (M'.take M.length) ∧ Ext H ι H' (ι'.take M.length) := by
  refine ⟨⟨by rw [List.length_take, List.length_take, hm'.len], hm'.nd.sublist (List.take_sublist _ _), fun n m h => ?_⟩, ⟨e.le, ?_⟩⟩
  · have hn : n < M.length := by
      have := (List.getElem?_eq_some_iff.mp h).1
      rw [List.length_take] at this
      omega
    rw [List.getElem?_take_of_lt hn] at h
    obtain ⟨a, o, h1, h2, h3⟩ := hm'.at_ n m h
    exact ⟨a, o, take_sw n a hn h1, h2, h3.sw take_sw (belM_of hm hm' ok hn h)⟩
  · obtain ⟨t, rfl⟩ := e.pre
    rw [← hm.len, List.take_left]
    exact List.prefix_refl _
theorem RM.tidyNew (hm : RM K H ι M) (hm' : RM K H' ι' M') (e : Ext H ι H' ι') (ok : TidyOk M M') {k : Nat} {a : Addr} {o : MO} (hk : M.length ≤ k) (ho : M'[k]? = some o) (ha : ι'[k]? = some a) (hb : Py.belM M.length o = true) :
    RM K H' (ι'.take M.length ++ [a]) (M'.take M.length ++ [o]) ∧ Ext H ι H' (ι'.take M.length ++ [a]) ∧ (ι'.take M.length ++ [a])[M.length]? = some a := by
  obtain ⟨m1, e1⟩ := hm.tidy hm' e ok
  have hl : (ι'.take M.length).length = M.length := by
    rw [List.length_take, hm'.len]
    have := ok.1
    omega
  have hl' : (M'.take M.length).length = M.length := by
    rw [List.length_take]
    have := ok.1
    omega
  have sw : ∀ k b, k < M.length → ι'[k]? = some b → (ι'.take M.length ++ [a])[k]? = some b := fun k b hk hb => by
    rw [List.getElem?_append_left (by omega)]
    exact take_sw k b hk hb
  refine ⟨⟨by rw [List.length_append, List.length_append, hl, hl']; rfl, ?_, fun n m h => ?_⟩, ⟨e1.le, e1.pre.trans (List.prefix_append _ _)⟩, ?_⟩
  · rw [List.nodup_append]
    refine ⟨m1.nd, by simp, fun x hx y hy => ?_⟩
    have hy : y = a := by simpa using hy
    subst hy
    rintro rfl
    obtain ⟨i, hi, ei⟩ := List.getElem_of_mem hx
    rw [hl] at hi
    obtain ⟨l2, e2⟩ := List.getElem?_eq_some_iff.mp ha
    rw [List.getElem_take] at ei
    have := (List.getElem_inj hm'.nd).mp (ei.trans e2.symm)
    omega
  · by_cases hn : n < M.length
    · rw [List.getElem?_append_left (by omega), List.getElem?_take_of_lt hn] at h
      obtain ⟨b, u, h1, h2, h3⟩ := hm'.at_ n m h
      exact ⟨b, u, sw n b hn h1, h2, h3.sw sw (belM_of hm hm' ok hn h)⟩
    · have hlt := (List.getElem?_eq_some_iff.mp h).1
      rw [List.length_append, hl', List.length_cons, List.length_nil] at hlt
      have : n = M.length := by omega
      subst this
      rw [List.getElem?_append_right (by omega), hl', Nat.sub_self] at h
      have : o = m := by simpa using h
      subst this
      obtain ⟨b, u, h1, h2, h3⟩ := hm'.at_ k o ho
      rw [ha] at h1
      cases h1
      refine ⟨a, u, ?_, h2, h3.sw sw hb⟩
      rw [List.getElem?_append_right (by omega), hl, Nat.sub_self]; rfl
  · rw [List.getElem?_append_right (by omega), hl, Nat.sub_self]; rfl
theorem RX.sw {ca : Nat → Addr × List Str} {n : Nat} (hw : ∀ k a, k < n → ι[k]? = some a → ι'[k]? = some a) {x : Exn} {c : Value} {d : Option Addr} (h : RX K ca H ι x c d) (q : Py.bels n (x.fs) = true) : RX K ca H ι' x c d := by
  obtain ⟨h1, h2⟩ := h
  refine ⟨h1, ?_⟩
  rcases h2 with h2 | ⟨dx, vs, e1, e2, e3, p⟩
  · exact .inl h2
  · exact .inr ⟨dx, vs, e1, e2, e3, RVs.sw hw _ _ p q⟩
theorem post_tidy {ca : Nat → Addr × List Str} {W : WX} {σ : L2.St} {r : Res D} {Q : VK} (hm : RM K H ι M) (h : post K ca W σ H ι (tidyR M r) (CD K Q)) : post K ca W σ H ι r (CD K Q) := by
  cases r with
  | bad => exact h
  | exc x M' =>
    intro H' ι' c d e hm' rx
    by_cases hc : bels M.length (x.fs) = true ∧ TidyOk M M'
    · have e1 : tidyM M (bels M.length (x.fs)) M' = M'.take M.length := if_pos hc
      obtain ⟨m1, x1⟩ := hm.tidy hm' e hc.2
      have h : post K ca W σ H ι (.exc x (tidyM M (bels M.length (x.fs)) M')) (CD K Q) := h
      rw [e1] at h
      exact h H' _ c d x1 m1 (rx.sw take_sw hc.1)
    · have e1 : tidyM M (bels M.length (x.fs)) M' = M' := if_neg hc
      have h : post K ca W σ H ι (.exc x (tidyM M (bels M.length (x.fs)) M')) (CD K Q) := h
      rw [e1] at h
      exact h H' ι' c d e hm' rx
  | ok d M' =>
    intro H' ι' e hm' v rv
    have h : post K ca W σ H ι (.ok (tidyD M d M').1 (tidyD M d M').2) (CD K Q) := h
    have plain : ∀ b : Bool, (b = true → bel M.length d = true) → tidyD M d M' = (d, tidyM M b M') → Q v H' := fun b hb ed => by
      rw [ed] at h
      by_cases hc : b = true ∧ TidyOk M M'
      · have e1 : tidyM M b M' = M'.take M.length := if_pos hc
        rw [e1] at h
        obtain ⟨m1, x1⟩ := hm.tidy hm' e hc.2
        exact h H' _ x1 m1 v (RV.sw take_sw _ _ rv (hb hc.1))
      · have e1 : tidyM M b M' = M' := if_neg hc
        rw [e1] at h
        exact h H' ι' e hm' v rv
    cases d with
    | obj k =>
      by_cases hk : k < M.length
      · exact plain true (fun _ => decide_eq_true hk) (if_pos hk)
      · have e0 : tidyD M (.obj k) M' = (match M'[k]? with
          | some o => @ite _ (belM M.length o = true ∧ TidyOk M M') (Classical.propDecidable _) (.obj M.length, M'.take M.length ++ [o]) (.obj k, M')
          | none => (.obj k, M')) := if_neg hk
        rw [e0] at h
        cases ho : M'[k]? with
        | none => rw [ho] at h; exact h H' ι' e hm' v rv
        | some o =>
          rw [ho] at h
          by_cases hc : belM M.length o = true ∧ TidyOk M M'
          · have e1 : @ite _ (belM M.length o = true ∧ TidyOk M M') (Classical.propDecidable _) ((.obj M.length : D), M'.take M.length ++ [o]) (.obj k, M') = (.obj M.length, M'.take M.length ++ [o]) := if_pos hc
            simp only [e1] at h
            cases rv with | obj ha =>
            obtain ⟨m1, x1, g⟩ := hm.tidyNew hm' e hc.2 (Nat.le_of_not_lt hk) ho ha hc.1
            exact h H' _ x1 m1 _ (.obj g)
          · have e1 : @ite _ (belM M.length o = true ∧ TidyOk M M') (Classical.propDecidable _) ((.obj M.length : D), M'.take M.length ++ [o]) (.obj k, M') = (.obj k, M') := if_neg hc
            simp only [e1] at h
            exact h H' ι' e hm' v rv
    | non => exact plain _ id rfl
    | bl b => exact plain _ id rfl
    | int b => exact plain _ id rfl
    | str b => exact plain _ id rfl
    | tup b => exact plain _ id rfl
    | rol b => exact plain _ id rfl
theorem de_tidy {X : Cx} {e : Expr} {ca : Nat → Addr × List Str} {W : WX} {fa : Env → Mem → Res D} (h : PE X e (tE X.K ca W fa)) : PE X e (tE X.K ca W fun env M => tidyR M (fa env M)) :=
  h.weak fun σ H Q ⟨ι, env, M, hs, hm, q⟩ => ⟨ι, env, M, hs, hm, post_tidy hm q⟩
end
end Py

set_option Elab.async false
set_option autoImplicit false
set_option linter.all false
set_option maxRecDepth 100000
set_option maxHeartbeats 4000000
/-! E7: does a piece of the text say what a piece of IR says? -/
namespace Py
open PySem PySem.Spec PyProof.Rows L2

/-- an own error class: its name, its fields (none: no own __init__) -/
structure ClI where
  name : Str
  fs : List Str
structure Nm where
  fn : Nat → Str
  gl : Nat → Str
  /-- the built-in names that the module leaves as they are -/
  bs : List Str
  /-- which defs there are -/
  hf : Nat → Bool
  cl : Nat → Option ClI

/-! ### looking at the text -/
def asName : Expr → Option Str | .Name x _ => some x | _ => none
def asInt : Expr → Option Int | .Constant (.int i) _ _ => some i | _ => none
def asStr : Expr → Option Str | .Constant (.str i) _ _ => some i | _ => none
def asBool : Expr → Option Bool | .Constant (.bool i) _ _ => some i | _ => none
def isNone : Expr → Bool | .Constant .none _ _ => true | _ => false
def asTup : Expr → Option (List Expr) | .Tuple es _ _ => some es | _ => none
def asLst : Expr → Option (List Expr) | .List es _ => some es | _ => none
def isDict0 : Expr → Bool | .Dict [] [] _ => true | _ => false
def asNeg : Expr → Option Expr | .UnaryOp .USub e _ => some e | _ => none
def asNot : Expr → Option Expr | .UnaryOp .Not e _ => some e | _ => none
def asBin : Expr → Option (Expr × Operator × Expr) | .BinOp a o b _ => some (a, o, b) | _ => none
def asCmp : Expr → Option (Expr × List CmpOp × List Expr) | .Compare a o b _ => some (a, o, b) | _ => none
def asAnd : Expr → Option (List Expr) | .BoolOp .And es _ => some es | _ => none
def asOr : Expr → Option (List Expr) | .BoolOp .Or es _ => some es | _ => none
def asIf : Expr → Option (Expr × Expr × Expr) | .IfExp c a b _ => some (c, a, b) | _ => none
def asSub : Expr → Option (Expr × Expr) | .Subscript a b _ => some (a, b) | _ => none
def asSlice : Expr → Option (Option Expr × Option Expr) | .Slice a b none _ => some (a, b) | _ => none
def asRev : Expr → Option Expr | .Subscript a (.Slice none none (some (.UnaryOp .USub (.Constant (.int 1) _ _) _)) _) _ => some a | _ => none
def asCall : Expr → Option (Str × List Expr) | .Call (.Name x _) es [] _ => some (x, es) | _ => none
/-- o.m(..) -/
def asMeth : Expr → Option (Expr × Str × List Expr) | .Call (.Attribute o m ap) es [] p => if ap.endLine == p.line then some (o, m, es) else none | _ => none
def asLc : Expr → Option (Expr × Expr × Expr × List Expr × Scope) | .ListComp e [⟨t, it, ifs, 0⟩] sc _ => some (e, t, it, ifs, sc) | _ => none
section
variable {e : Expr}
theorem asName_of {x : Str} (h : asName e = some x) : ∃ p, e = .Name x p := by unfold asName at h; split at h <;> cases h; exact ⟨_, rfl⟩
theorem asInt_of {i : Int} (h : asInt e = some i) : ∃ j p, e = .Constant (.int i) j p := by unfold asInt at h; split at h <;> cases h; exact ⟨_, _, rfl⟩
theorem asStr_of {i : Str} (h : asStr e = some i) : ∃ j p, e = .Constant (.str i) j p := by unfold asStr at h; split at h <;> cases h; exact ⟨_, _, rfl⟩
theorem asBool_of {i : Bool} (h : asBool e = some i) : ∃ j p, e = .Constant (.bool i) j p := by unfold asBool at h; split at h <;> cases h; exact ⟨_, _, rfl⟩
theorem isNone_of (h : isNone e = true) : ∃ j p, e = .Constant .none j p := by unfold isNone at h; split at h <;> cases h; exact ⟨_, _, rfl⟩
theorem asTup_of {es : List Expr} (h : asTup e = some es) : ∃ k p, e = .Tuple es k p := by unfold asTup at h; split at h <;> cases h; exact ⟨_, _, rfl⟩
theorem asLst_of {es : List Expr} (h : asLst e = some es) : ∃ p, e = .List es p := by unfold asLst at h; split at h <;> cases h; exact ⟨_, rfl⟩
theorem isDict0_of (h : isDict0 e = true) : ∃ p, e = .Dict [] [] p := by unfold isDict0 at h; split at h <;> cases h; exact ⟨_, rfl⟩
theorem asNeg_of {a : Expr} (h : asNeg e = some a) : ∃ p, e = .UnaryOp .USub a p := by unfold asNeg at h; split at h <;> cases h; exact ⟨_, rfl⟩
theorem asNot_of {a : Expr} (h : asNot e = some a) : ∃ p, e = .UnaryOp .Not a p := by unfold asNot at h; split at h <;> cases h; exact ⟨_, rfl⟩
theorem asBin_of {a b : Expr} {o : Operator} (h : asBin e = some (a, o, b)) : ∃ p, e = .BinOp a o b p := by unfold asBin at h; split at h <;> cases h; exact ⟨_, rfl⟩
theorem asCmp_of {a : Expr} {o : List CmpOp} {b : List Expr} (h : asCmp e = some (a, o, b)) : ∃ p, e = .Compare a o b p := by unfold asCmp at h; split at h <;> cases h; exact ⟨_, rfl⟩
theorem asAnd_of {es : List Expr} (h : asAnd e = some es) : ∃ p, e = .BoolOp .And es p := by unfold asAnd at h; split at h <;> cases h; exact ⟨_, rfl⟩
theorem asOr_of {es : List Expr} (h : asOr e = some es) : ∃ p, e = .BoolOp .Or es p := by unfold asOr at h; split at h <;> cases h; exact ⟨_, rfl⟩
theorem asIf_of {c a b : Expr} (h : asIf e = some (c, a, b)) : ∃ p, e = .IfExp c a b p := by unfold asIf at h; split at h <;> cases h; exact ⟨_, rfl⟩
theorem asSub_of {a b : Expr} (h : asSub e = some (a, b)) : ∃ p, e = .Subscript a b p := by unfold asSub at h; split at h <;> cases h; exact ⟨_, rfl⟩
theorem asSlice_of {a b : Option Expr} (h : asSlice e = some (a, b)) : ∃ p, e = .Slice a b none p := by unfold asSlice at h; split at h <;> cases h; exact ⟨_, rfl⟩
theorem asRev_of {a : Expr} (h : asRev e = some a) : ∃ k p1 p2 p3 p4, e = .Subscript a (.Slice none none (some (.UnaryOp .USub (.Constant (.int 1) k p1) p2)) p3) p4 := by unfold asRev at h; split at h <;> cases h; exact ⟨_, _, _, _, _, rfl⟩
theorem asCall_of {x : Str} {es : List Expr} (h : asCall e = some (x, es)) : ∃ q p, e = .Call (.Name x q) es [] p := by unfold asCall at h; split at h <;> cases h; exact ⟨_, _, rfl⟩
theorem asMeth_of {o : Expr} {x : Str} {es : List Expr} (h : asMeth e = some (o, x, es)) : ∃ ap p, e = .Call (.Attribute o x ap) es [] p ∧ (ap.endLine == p.line) = true := by
  unfold asMeth at h
  split at h
  · split at h
    · rename_i q
      cases h; exact ⟨_, _, rfl, q⟩
    · cases h
  · cases h
theorem asLc_of {el t it : Expr} {ifs : List Expr} {sc : Scope} (h : asLc e = some (el, t, it, ifs, sc)) : ∃ p, e = .ListComp el [⟨t, it, ifs, 0⟩] sc p := by unfold asLc at h; split at h <;> cases h; exact ⟨_, rfl⟩
end
/-- no star, no slice, no set: what may stand as an argument, an index, a compared thing -/
def plainX : Expr → Bool
  | .Name .. | .Constant .. | .Tuple .. | .List .. | .Dict .. | .BinOp .. | .UnaryOp .. | .Compare .. | .BoolOp .. | .IfExp .. | .Subscript .. | .Call .. | .Attribute .. | .ListComp .. => true
  | _ => false
/-- its truth is its value's truth -/
def trX : Expr → Bool
  | .Name .. | .Constant .. | .Tuple .. | .List .. | .BinOp .. | .Subscript .. | .Call .. | .Attribute .. | .ListComp .. => true
  | _ => false
/-- not super() -/
def baseX : Expr → Bool
  | .Name .. | .Constant .. | .Subscript .. | .Attribute .. | .Tuple .. | .List .. => true
  | .Call (.Name ..) (_ :: _) .. => true
  | _ => false
section
variable {X : Cx} {e : Expr} {es : List Expr}
theorem star_of (h : plainX e = true) (es : List Expr) (env : PySem.Env) : starEach (e :: es) env = (false, eval e env) :: starEach es env := by cases e <;> first | rfl | cases h
theorem ix_of (h : plainX e = true) : PlainIx e := by cases e <;> first | exact fun _ _ => rfl | cases h
theorem mark_of (h : plainX e = true) (o : CmpOp) : behindInMarks o e = false := by cases e <;> first | rfl | cases h
theorem tr_of (h : trX e = true) (env : PySem.Env) (whole : Sem Value) : isTrue e env whole = (do let v ← whole; standAt e.pos; holding [v] (truthy v)) := by cases e <;> first | rfl | cases h
theorem base_of (h : baseX e = true) (m : Str) (env : PySem.Env) : attributeBase e m env (eval e env) = eval e env := by
  unfold baseX at h
  split at h <;> first | rfl | cases h
theorem set_of (h : plainX e = true) (env : PySem.Env) (x : Value) : foldedSetIterable e env x = pure x := by cases e <;> first | rfl | cases h
theorem stars_of (pos : Pos) (env : PySem.Env) : ∀ {es : List Expr}, es.all plainX = true → (backTo pos (starEach es env)).any (·.1) = false ∧ (backTo pos (starEach es env)).all (fun x => !x.1) = true
  | [], _ => ⟨rfl, rfl⟩
  | e :: es, h => by
    rw [List.all_cons, Bool.and_eq_true] at h
    obtain ⟨h1, h2⟩ := stars_of pos env h.2
    rw [star_of h.1]
    exact ⟨by show (false || (backTo pos (starEach es env)).any (·.1)) = false; rw [h1]; rfl, by show ((!false) && (backTo pos (starEach es env)).all (fun x => !x.1)) = true; rw [h2]; rfl⟩
theorem marks_of : ∀ {ops : List CmpOp} {es : List Expr}, es.all plainX = true → lastMarks ops es = false
  | [], [], _ => rfl
  | [], _ :: _, _ => rfl
  | [_], [], _ => rfl
  | _ :: _ :: _, [], _ => rfl
  | [o], [e], h => mark_of (by simpa using h) o
  | [o], e :: e' :: es, h => by
    show lastMarks [] (e' :: es) = false
    rfl
  | o :: o' :: ops, e :: es, h => by
    show lastMarks (o' :: ops) es = false
    exact marks_of (by rw [List.all_cons, Bool.and_eq_true] at h; exact h.2)
end

def visB (sc : Scope) (x : Str) : Bool := (match sc.names.lookup x with | some .local => true | some .cell => true | some .free => true | _ => false) && !(x == ("__debug__" : Str)) && !(x == ("__classdict__" : Str))
def glB (sc : Scope) (x : Str) : Bool := (match sc.names.lookup x with | some .globalImplicit => true | _ => false) && !(x == ("__debug__" : Str))
def locB (sc : Scope) (x : Str) : Bool := match sc.names.lookup x with | some .local => true | some .cell => true | _ => false
def isLocal (sc : Scope) (x : Str) : Bool := match sc.names.lookup x with | some .local => true | _ => false
theorem visB_of {sc : Scope} {x : Str} (h : visB sc x = true) : Vis sc x ∧ (x == ("__debug__" : Str)) = false ∧ (x == ("__classdict__" : Str)) = false := by
  unfold visB at h
  simp only [Bool.and_eq_true, Bool.not_eq_true'] at h
  refine ⟨?_, h.1.2, h.2⟩
  unfold Vis
  obtain ⟨⟨h, _⟩, _⟩ := h
  split at h <;> simp_all
theorem glB_of {sc : Scope} {x : Str} (h : glB sc x = true) : sc.names.lookup x = some .globalImplicit ∧ (x == ("__debug__" : Str)) = false := by
  unfold glB at h
  simp only [Bool.and_eq_true, Bool.not_eq_true'] at h
  refine ⟨?_, h.2⟩
  obtain ⟨h, _⟩ := h
  split at h <;> simp_all
theorem locB_of {sc : Scope} {x : Str} (h : locB sc x = true) : L2.Loc sc x := by
  unfold locB at h
  unfold L2.Loc
  split at h <;> simp_all
theorem isLocal_of {sc : Scope} {x : Str} (h : isLocal sc x = true) : sc.names.lookup x = some .local := by
  unfold isLocal at h
  split at h <;> simp_all

def biName : Bi → Str
  | .len => "len" | .int => "int" | .abs => "abs" | .max2 => "max" | .min2 => "min" | .ord => "ord" | .tuple => "tuple" | .list => "list"
  | .isInt => "isinstance" | .isStr => "isinstance" | .isTup => "isinstance" | .isBool => "isinstance" | .isDict => "isinstance" | .isList => "isinstance" | .sorted => "sorted" | .sum => "sum" | .max1 => "max"
def meName : Me → Str
  | .append => "append" | .extend => "extend" | .pop => "pop" | .join => "join"
section
variable (nm : Nm) (N : List Str)
mutual
def ckTg (sc : Scope) : Tg → Expr → Bool
  | .name i => fun ex => match asName ex with
    | some x => decide (N[i]? = some x) && locB sc x
    | none => false
  | .tup ts => fun ex => match asTup ex with
    | some es => ckTgs sc ts es
    | none => false
def ckTgs (sc : Scope) : List Tg → List Expr → Bool
  | [] => fun es => es.isEmpty
  | t :: ts => fun es => match es with
    | e :: es => ckTg sc t e && ckTgs sc ts es
    | [] => false
end
mutual
def slotsOf : Tg → List Nat
  | .name i => [i]
  | .tup ts => slotsOfs ts
def slotsOfs : List Tg → List Nat
  | [] => []
  | t :: ts => slotsOf t ++ slotsOfs ts
end
/-- a built-in's name, not hidden -/
def bnB (sc : Scope) (x : Str) : Bool := glB sc x && decide (x ∈ nm.bs) && decide (x ≠ "__name__")
mutual
def ckE : E → Scope → Expr → Bool
  | .var i => fun sc ex => match asName ex with
    | some x => decide (N[i]? = some x) && visB sc x
    | none => false
  | .int i => fun _ ex => decide (asInt ex = some i)
  | .str s => fun _ ex => match asStr ex with
    | some x => decide (x.cps.toList = s)
    | none => false
  | .bl b => fun _ ex => decide (asBool ex = some b)
  | .non => fun _ ex => isNone ex
  | .glob g => fun sc ex => match asName ex with
    | some x => decide (x = nm.gl g) && glB sc x
    | none => false
  | .tup es => fun sc ex => match asTup ex with
    | some xs => ckEs es sc xs && xs.all plainX
    | none => false
  | .lst es => fun sc ex => match asLst ex with
    | some xs => ckEs es sc xs && xs.all plainX
    | none => false
  | .dict0 => fun _ ex => isDict0 ex
  | .stuck => fun _ _ => true
  | .rev a => fun sc ex => match asRev ex with
    | some x => ckE a sc x
    | none => false
  | .tidy e => fun sc ex => ckE e sc ex
  | .neg a => fun sc ex => match asNeg ex with
    | some x => ckE a sc x
    | none => false
  | .bin o a b => fun sc ex => match asBin ex with
    | some (x, op, y) => decide (op = o.py) && ckE a sc x && ckE b sc y
    | none => false
  | .cmp o a b => fun sc ex => match asCmp ex with
    | some (x, [op], [y]) => decide (op = o.py) && ckE a sc x && ckE b sc y && plainX y
    | _ => false
  | .chain o a b r => fun sc ex => match asCmp ex with
    | some (x, op :: ops, y :: ys) => decide (op = o.py) && ckE a sc x && ckE b sc y && ckCh r sc ops ys && plainX y && ys.all plainX
    | _ => false
  | .notE a => fun sc ex => match asNot ex with
    | some x => ckE a sc x
    | none => false
  | .andE a b => fun sc ex => match asAnd ex with
    | some (x :: y :: ys) => ckE a sc x && ckE b sc (match ys with | [] => y | _ => .BoolOp .And (y :: ys) ⟨0, 0, 0, 0⟩)
    | _ => false
  | .orE a b => fun sc ex => match asOr ex with
    | some (x :: y :: ys) => ckE a sc x && ckE b sc (match ys with | [] => y | _ => .BoolOp .Or (y :: ys) ⟨0, 0, 0, 0⟩)
    | _ => false
  | .ifE c a b => fun sc ex => match asIf ex with
    | some (x, y, z) => ckT c sc x && ckE a sc y && ckE b sc z
    | none => false
  | .ix a b => fun sc ex => match asSub ex with
    | some (x, y) => ckE a sc x && ckE b sc y && plainX y
    | none => false
  | .slice a lo hi => fun sc ex => match asSub ex with
    | some (x, y) => match asSlice y with
      | some (l, h) => ckE a sc x && ckO lo sc l && ckO hi sc h
      | none => false
    | none => false
  | .call f es => fun sc ex => match asCall ex with
    | some (x, xs) => nm.hf f && decide (x = nm.fn f) && glB sc x && !xs.isEmpty && ckEs es sc xs && xs.all plainX
    | none => false
  | .blt b es => fun sc ex => match asCall ex with
    | some (x, xs) => decide (x = biName b) && bnB nm sc x && !xs.isEmpty && (match isName b with
      | some T => (match xs with
        | [y, c] => ckEs es sc [y] && plainX y && (match asName c with
          | some n => decide (n = PySem.Str.ofString T) && bnB nm sc n
          | none => false)
        | _ => false)
      | none => ckEs es sc xs && xs.all plainX)
    | none => false
  | .meth m o es => fun sc ex => match asMeth ex with
    | some (y, x, xs) => decide (x = meName m) && ckE o sc y && baseX y && ckEs es sc xs && xs.all plainX && decide (xs.length < 20)
    | none => false
  | .lc own tg it c e => fun sc ex => match asLc ex with
    | some (el, t, i, ifs, scope) => blkC N sc scope (own.filterMap fun j => (N[j]?).map fun x => (x, j)) && ckIt it sc i && plainX i && ckTg N (relS scope sc) tg t && (slotsOf tg).all (own.contains ·) && ((slotsOf tg).all fun i => match N[i]? with | some x => (scope.names.lookup x == some .cell) || isLocal (relS scope sc) x | none => true) && ckOT c (relS scope sc) ifs && ckE e (relS scope sc) el &&
        decide ((own.filterMap fun j => (N[j]?).map fun x => (x, j)).map (·.2) = own)
    | none => false
def ckCh : Ch → Scope → List CmpOp → List Expr → Bool
  | .last o a => fun sc ops es => match ops, es with
    | [op], [x] => decide (op = o.py) && ckE a sc x
    | _, _ => false
  | .more o a r => fun sc ops es => match ops, es with
    | op :: op' :: ops, x :: x' :: es => decide (op = o.py) && ckE a sc x && ckCh r sc (op' :: ops) (x' :: es)
    | _, _ => false
def ckEs : Es → Scope → List Expr → Bool
  | .nil => fun _ xs => xs.isEmpty
  | .cons e es => fun sc xs => match xs with
    | x :: xs => ckE e sc x && ckEs es sc xs
    | [] => false
def ckO : OE → Scope → Option Expr → Bool
  | .none => fun _ o => o.isNone
  | .some e => fun sc o => match o with
    | some x => ckE e sc x
    | none => false
def ckT : T → Scope → Expr → Bool
  | .tr e => fun sc ex => trX ex && ckE e sc ex
  | .cmp o a b => fun sc ex => match asCmp ex with
    | some (x, [op], [y]) => decide (op = o.py) && ckE a sc x && ckE b sc y && plainX y
    | _ => false
  | .chain o a b r => fun sc ex => match asCmp ex with
    | some (x, op :: ops, y :: ys) => decide (op = o.py) && ckE a sc x && ckE b sc y && ckCh r sc ops ys && plainX y && ys.all plainX
    | _ => false
  | .and a b => fun sc ex => match asAnd ex with
    | some (x :: y :: ys) => ckT a sc x && ckT b sc (match ys with | [] => y | _ => .BoolOp .And (y :: ys) ⟨0, 0, 0, 0⟩)
    | _ => false
  | .or a b => fun sc ex => match asOr ex with
    | some (x :: y :: ys) => ckT a sc x && ckT b sc (match ys with | [] => y | _ => .BoolOp .Or (y :: ys) ⟨0, 0, 0, 0⟩)
    | _ => false
  | .not a => fun sc ex => match asNot ex with
    | some x => ckT a sc x
    | none => false
def ckOT : OT → Scope → List Expr → Bool
  | .none => fun _ xs => xs.isEmpty
  | .some c => fun sc xs => match xs with
    | [x] => ckT c sc x
    | _ => false
def ckIt : Wi → Scope → Expr → Bool
  | .seq e => fun sc ex => ckE e sc ex
  | .keys i => fun sc ex => match asName ex with
    | some x => decide (N[i]? = some x) && visB sc x
    | none => false
  | .range1 a => fun sc ex => match asCall ex with
    | some (x, [y]) => decide (x = "range") && bnB nm sc x && ckE a sc y && plainX y
    | _ => false
  | .range2 a b => fun sc ex => match asCall ex with
    | some (x, [y, z]) => decide (x = "range") && bnB nm sc x && ckE a sc y && ckE b sc z && plainX y && plainX z
    | _ => false
end
end
end Py

set_option Elab.async false
set_option autoImplicit false
set_option linter.all false
set_option maxRecDepth 100000
set_option maxHeartbeats 4000000
/-! E8: each construct of an expression. -/
namespace Py
open PySem PySem.Spec PyProof.Rows L2
section
variable {X : Cx} {ca : Nat → Addr × List Str} {W : WX} {a b c e : Expr} {es : List Expr} {pos : Pos} {fa fb fc : Py.Env → Mem → Res D} {fs : Py.Env → Mem → Res (List D)} {ft : Py.Env → Mem → Res Bool}
theorem de_var {i : Nat} {x : Str} (hN : X.N[i]? = some x) (hv : Vis X.env.scope x) (hd : (x == ("__debug__" : Str)) = false) (hcd : (x == ("__classdict__" : Str)) = false) :
    PE X (.Name x pos) (tE X.K ca W fun env M => .ofV ((env[i]?).bind id) M) := by
  refine (pe_var hN hv hd hcd).weak fun σ H Q ⟨ι, env, M, hs, hm, h⟩ => ?_
  obtain ⟨d, hd, q⟩ := post_ofV h hm
  have e : env[i]? = some (some d) := by
    cases z : env[i]? with
    | none => rw [z] at hd; cases hd
    | some o =>
      rw [z] at hd
      have : o = some d := hd
      rw [this]
  obtain ⟨v, e1, r⟩ := hs.at_ i d e
  exact ⟨v, e1, q v r⟩
theorem de_const {v : V} {d : D} (h : PE X e (tC v)) (r : ∀ H ι, RV X.K H ι d v) : PE X e (tE X.K ca W fun _ M => .ok d M) :=
  h.weak fun σ H Q ⟨ι, env, M, hs, hm, q⟩ => post_ok q hm v (r H ι)
theorem da_nil : PA X [] (tA X.K ca W fun _ M => .ok [] M) := (pa_nil).weak fun σ H Q ⟨ι, env, M, hs, hm, q⟩ => post_ok q hm [] .nil
theorem da_cons (he : PE X e (tE X.K ca W fa)) (hr : PA X es (tA X.K ca W fs)) (hp : plainX e = true) :
    PA X (e :: es) (tA X.K ca W fun env M => (fa env M).bind fun d M => (fs env M).bind fun ds M => .ok (d :: ds) M) := by
  refine (pa_cons he hr (star_of hp es X.env)).weak fun σ H Q ⟨ι, env, M, hs, hm, h⟩ => ?_
  refine ⟨ι, env, M, hs, hm, post_imp (post_bind h) fun d M1 H1 ι1 e1 hm1 h1 x rx => ?_⟩
  refine ⟨ι1, env, M1, hs.up e1, hm1, post_imp (post_bind h1) fun ds M2 H2 ι2 e2 hm2 h2 xs rxs => ?_⟩
  exact post_ok h2 hm2 _ (.cons (rx.up e2) rxs)
theorem de_tup {k : Nat} (h : PA X es (tA X.K ca W fs)) : PE X (.Tuple es k pos) (tE X.K ca W fun env M => (fs env M).bind fun ds M => if ds.length ≤ sizeLine then .ok (.tup ds) M else .bad) := by
  refine (pe_tup h).weak fun σ H Q ⟨ι, env, M, hs, hm, h⟩ => ?_
  refine ⟨ι, env, M, hs, hm, post_imp (post_bind h) fun ds M1 H1 ι1 e1 hm1 h1 xs rx => ?_⟩
  split at h1
  · rename_i hz
    refine ⟨by rw [← rx.length]; exact hz, fun p n => ?_⟩
    have ex : Ext H1 ι1 (upd H1 p (.tup xs)) ι1 := ⟨Le.new n, List.prefix_refl _⟩
    exact h1 _ _ ex (hm1.other n) _ (.tup (SqT.of upd_same) (rx.up ex))
  · exact h1.elim
theorem de_lst (h : PA X es (tA X.K ca W fs)) : PE X (.List es pos) (tE X.K ca W fun env M => (fs env M).bind fun ds M => if ds.length ≤ sizeLine then .ok (.obj M.length) (M ++ [MO.lst ds]) else .bad) := by
  refine (pe_lst h).weak fun σ H Q ⟨ι, env, M, hs, hm, h⟩ => ?_
  refine ⟨ι, env, M, hs, hm, post_imp (post_bind h) fun ds M1 H1 ι1 e1 hm1 h1 xs rx => ?_⟩
  split at h1
  · rename_i hz
    refine ⟨by rw [← rx.length]; exact hz, fun p n => ?_⟩
    obtain ⟨e2, m2, l2⟩ := hm1.new (o := .lst xs) (m := .lst ds) n ⟨xs, rfl, rx⟩
    exact h1 _ _ e2 m2 _ (.obj l2)
  · exact h1.elim
theorem de_dict0 : PE X (.Dict [] [] pos) (tE X.K ca W fun _ M => .ok (.obj M.length) (M ++ [MO.dK []])) := by
  refine (pe_dnewK).weak fun σ H Q ⟨ι, env, M, hs, hm, h⟩ => ?_
  intro p n
  obtain ⟨e2, m2, l2⟩ := hm.new (o := .dK []) (m := .dK []) n ⟨[], rfl, .nil⟩
  exact h _ _ e2 m2 _ (.obj l2)
theorem de_rev {k : Nat} {p1 p2 p3 : Pos} (ha : PE X a (tE X.K ca W fa)) : PE X (.Subscript a (.Slice none none (some (.UnaryOp .USub (.Constant (.int 1) k p1) p2)) p3) pos) (tE X.K ca W fun env M => (fa env M).bind fun x M => .ofO (opRev x M)) := by
  refine (pe_revL ha).weak fun σ H Q ⟨ι, env, M, hs, hm, h⟩ => ?_
  refine ⟨ι, env, M, hs, hm, post_imp (post_bind h) fun d M1 H1 ι1 e1 hm1 h1 x rx => ?_⟩
  obtain ⟨d2, M2, ho, q⟩ := post_ofO h1
  unfold opRev at ho
  split at ho
  · split at ho
    · rename_i n _ xs hx
      cases ho
      obtain ⟨a, vs, rfl, h3, hH, hr⟩ := hm1.lst hx rx
      refine ⟨a, vs, rfl, SqL.of hH, fun p n => ?_⟩
      obtain ⟨e2, m2, l2⟩ := hm1.new (o := .lst vs.reverse) (m := .lst xs.reverse) n ⟨_, rfl, hr.reverse⟩
      exact q _ _ e2 m2 _ (.obj l2)
    · cases ho
  · cases ho
theorem de_neg (ha : PE X a (tE X.K ca W fa)) : PE X (.UnaryOp .USub a pos) (tE X.K ca W fun env M => (fa env M).bind fun d M => match d with
    | .int i => .ok (.int (-i)) M
    | _ => .bad) := by
  refine (pe_un un_neg ha).weak fun σ H Q ⟨ι, env, M, hs, hm, h⟩ => ?_
  refine ⟨ι, env, M, hs, hm, post_imp (post_bind h) fun d M1 H1 ι1 e1 hm1 h1 x rx => ?_⟩
  cases rx <;> first | exact ⟨_, rfl, post_ok h1 hm1 _ (.int _)⟩ | exact h1.elim
theorem de_bin (o : BOp) (ha : PE X a (tE X.K ca W fa)) (hb : PE X b (tE X.K ca W fb)) : PE X (.BinOp a o.py b pos) (tE X.K ca W fun env M => (fa env M).bind fun x M => (fb env M).bind fun y M => .ofO (opBin o x y M)) := by
  refine (pe_op (op_bin_ok o) ha hb).weak fun σ H Q ⟨ι, env, M, hs, hm, h⟩ => ?_
  refine ⟨ι, env, M, hs, hm, post_imp (post_bind h) fun dx M1 H1 ι1 e1 hm1 h1 x rx => ?_⟩
  refine ⟨ι1, env, M1, hs.up e1, hm1, post_imp (post_bind h1) fun dy M2 H2 ι2 e2 hm2 h2 y ry => ?_⟩
  obtain ⟨d, M3, ho, q⟩ := post_ofO h2
  exact ⟨ι2, M2, dx, dy, d, M3, hm2, rx.up e2, ry, ho, fun H' ι' v e' hm' r' => q H' ι' e' hm' v r'⟩
theorem de_cmp {k : Nat} (hr : Room k X.A) (o : COp) (ha : PE X a (tE X.K ca W fa)) (hb : PE X b (tE X.K ca W fb)) (hp : plainX b = true) :
    PE X (.Compare a [o.py] [b] pos) (tE X.K ca W fun env M => (fa env M).bind fun x M => (fb env M).bind fun y M => .ofV ((opCmp o x y M).map D.bl) M) := by
  refine (pe_cmpR (op_cmp_ok hr o) ha hb (mark_of hp _)).weak fun σ H Q ⟨ι, env, M, hs, hm, h⟩ => ?_
  refine ⟨ι, env, M, hs, hm, post_imp (post_bind h) fun dx M1 H1 ι1 e1 hm1 h1 x rx => ?_⟩
  refine ⟨ι1, env, M1, hs.up e1, hm1, post_imp (post_bind h1) fun dy M2 H2 ι2 e2 hm2 h2 y ry => ?_⟩
  obtain ⟨d, ho, q⟩ := post_ofV h2 hm2
  obtain ⟨b, hb, rfl⟩ := Option.map_eq_some_iff.mp ho
  exact ⟨ι2, M2, dx, dy, b, hm2, rx.up e2, ry, hb, q _ (.bl b)⟩
theorem dt_cmp {k : Nat} (hr : Room k X.A) (o : COp) (ha : PE X a (tE X.K ca W fa)) (hb : PE X b (tE X.K ca W fb)) (hp : plainX b = true) :
    PT X (.Compare a [o.py] [b] pos) (tT X.K ca W fun env M => (fa env M).bind fun x M => (fb env M).bind fun y M => .ofV (opCmp o x y M) M) := by
  refine (pt_cmpR (op_cmp_ok hr o) ha hb (mark_of hp _)).weak fun σ H Q ⟨ι, env, M, hs, hm, h⟩ => ?_
  refine ⟨ι, env, M, hs, hm, post_imp (post_bind h) fun dx M1 H1 ι1 e1 hm1 h1 x rx => ?_⟩
  refine ⟨ι1, env, M1, hs.up e1, hm1, post_imp (post_bind h1) fun dy M2 H2 ι2 e2 hm2 h2 y ry => ?_⟩
  obtain ⟨b, hb, q⟩ := post_ofV h2 hm2
  exact ⟨ι2, M2, dx, dy, b, hm2, rx.up e2, ry, hb, b, rfl, q⟩
/-! ### chains -/
theorem dch_last {k : Nat} (hr : Room k X.A) (o : COp) (he : PE X e (tE X.K ca W fa)) : PCh X [o.py] [e] (tV X.K ca W fun x env M => (fa env M).bind fun y M => .ofV ((opCmp o x y M).map D.bl) M) := by
  have base := pch_last (op_cmp_ok hr o) he
  have w : ∀ x σ H Q, tV X.K ca W (fun x env M => (fa env M).bind fun y M => .ofV ((opCmp o x y M).map D.bl) M) x σ H Q → tChL (rCmp X.K (opCmp o)) (tE X.K ca W fa) x σ H Q := fun x σ H Q ⟨ι, env, M, dx, hs, hm, rx, h⟩ => by
    refine ⟨ι, env, M, hs, hm, post_imp (post_bind h) fun dy M2 H2 ι2 e2 hm2 h2 y ry => ?_⟩
    obtain ⟨d, ho, q⟩ := post_ofV h2 hm2
    obtain ⟨b, hb, rfl⟩ := Option.map_eq_some_iff.mp ho
    exact ⟨ι2, M2, dx, dy, b, hm2, rx.up e2, ry, hb, q _ (.bl b)⟩
  exact ⟨fun pos pins s σ H Q x v I rx h => base.run pos pins s σ H Q x v I rx (w _ _ _ _ h), fun pos pins s σ H Q x v I rx h => base.tst pos pins s σ H Q x v I rx (w _ _ _ _ h)⟩
theorem chM_weak {k : Nat} (hr : Room k X.A) (o : COp) {fr : D → Py.Env → Mem → Res D} (x : V) (σ : L2.St) (H : Hp) (Q : VK)
    (h : tV X.K ca W (fun x env M => (fa env M).bind fun y M => (Res.ofV (opCmp o x y M) M).bind fun k M => match k with
      | true => fr y env M
      | false => .ok (.bl false) M) x σ H Q) : tChM (rCmp X.K (opCmp o)) (tE X.K ca W fa) (tV X.K ca W fr) x σ H Q := by
  obtain ⟨ι, env, M, dx, hs, hm, rx, h⟩ := h
  refine ⟨ι, env, M, hs, hm, post_imp (post_bind h) fun dy M2 H2 ι2 e2 hm2 h2 y ry => ?_⟩
  obtain ⟨b, hb, q⟩ := post_ofV (post_bind h2) hm2
  refine ⟨ι2, M2, dx, dy, b, hm2, rx.up e2, ry, hb, b, rfl, ?_⟩
  cases b with
  | true => exact iteT ⟨ι2, env, M2, dy, hs.up e2, hm2, ry, q⟩
  | false => exact iteF (post_ok q hm2 _ (.bl false))
theorem dch_more {k : Nat} {op' : CmpOp} {ops : List CmpOp} {e' : Expr} (hr : Room k X.A) (o : COp) {fr : D → Py.Env → Mem → Res D} (he : PE X e (tE X.K ca W fa)) (hc : PCh X (op' :: ops) (e' :: es) (tV X.K ca W fr)) :
    PCh X (o.py :: op' :: ops) (e :: e' :: es) (tV X.K ca W fun x env M => (fa env M).bind fun y M => (Res.ofV (opCmp o x y M) M).bind fun k M => match k with
      | true => fr y env M
      | false => .ok (.bl false) M) := by
  have base := pch_more (op_cmp_ok hr o) he hc
  exact ⟨fun pos pins s σ H Q x v I rx h => base.run pos pins s σ H Q x v I rx (chM_weak hr o x σ H Q h), fun pos pins s σ H Q x v I rx h => base.tst pos pins s σ H Q x v I rx (chM_weak hr o x σ H _ h)⟩
theorem de_chain {k : Nat} {op' : CmpOp} {ops : List CmpOp} (hr : Room k X.A) (o : COp) {fr : D → Py.Env → Mem → Res D} (ha : PE X a (tE X.K ca W fa)) (hb : PE X b (tE X.K ca W fb)) (hc : PCh X (op' :: ops) (c :: es) (tV X.K ca W fr))
    (hp : plainX b = true) (hps : (c :: es).all plainX = true) : PE X (.Compare a (o.py :: op' :: ops) (b :: c :: es) pos) (tE X.K ca W fun env M => (fa env M).bind fun x M => (fb env M).bind fun y M => (Res.ofV (opCmp o x y M) M).bind fun k M => match k with
      | true => fr y env M
      | false => .ok (.bl false) M) := by
  refine (pe_chainN (op_cmp_ok hr o) ha hb hc (marks_of (by rw [List.all_cons, hp, hps]; rfl))).weak fun σ H Q ⟨ι, env, M, hs, hm, h⟩ => ?_
  refine ⟨ι, env, M, hs, hm, post_imp (post_bind h) fun dx M1 H1 ι1 e1 hm1 h1 x rx => ?_⟩
  exact chM_weak hr o x σ H1 Q ⟨ι1, env, M1, dx, hs.up e1, hm1, rx, h1⟩
theorem dt_chain {k : Nat} {op' : CmpOp} {ops : List CmpOp} (hr : Room k X.A) (o : COp) {fr : D → Py.Env → Mem → Res D} (ha : PE X a (tE X.K ca W fa)) (hb : PE X b (tE X.K ca W fb)) (hc : PCh X (op' :: ops) (c :: es) (tV X.K ca W fr))
    (hp : plainX b = true) (hps : (c :: es).all plainX = true) : PT X (.Compare a (o.py :: op' :: ops) (b :: c :: es) pos) (tT X.K ca W fun env M => (fa env M).bind fun x M => (fb env M).bind fun y M => (Res.ofV (opCmp o x y M) M).bind fun k M => match k with
      | true => (fr y env M).bind fun d M => match d with
        | .bl k => .ok k M
        | _ => .bad
      | false => .ok false M) := by
  refine (pt_chainN (op_cmp_ok hr o) ha hb hc (marks_of (by rw [List.all_cons, hp, hps]; rfl))).weak fun σ H Q ⟨ι, env, M, hs, hm, h⟩ => ?_
  refine ⟨ι, env, M, hs, hm, post_imp (post_bind h) fun dx M1 H1 ι1 e1 hm1 h1 x rx => ?_⟩
  refine ⟨ι1, env, M1, hs.up e1, hm1, post_imp (post_bind h1) fun dy M2 H2 ι2 e2 hm2 h2 y ry => ?_⟩
  obtain ⟨b, hb, q⟩ := post_ofV (post_bind h2) hm2
  refine ⟨ι2, M2, dx, dy, b, hm2, rx.up e2, ry, hb, b, rfl, ?_⟩
  cases b with
  | true =>
    refine iteT ⟨ι2, env, M2, dy, (hs.up e1).up e2, hm2, ry, post_imp (post_bind q) fun d M3 H3 ι3 e3 hm3 h3 v r3 => ?_⟩
    cases r3 <;> first | exact ⟨_, rfl, post_ok h3 hm3⟩ | exact h3.elim
  | false => exact iteF ⟨false, rfl, post_ok q hm2⟩

/-! ### and, or, not, if -/
theorem de_not (ha : PE X a (tE X.K ca W fa)) : PE X (.UnaryOp .Not a pos) (tE X.K ca W fun env M => (fa env M).bind fun x M => match x with
    | .bl b => .ok (.bl (!b)) M
    | _ => .bad) := by
  refine (pe_not ha).weak fun σ H Q ⟨ι, env, M, hs, hm, h⟩ => ?_
  refine ⟨ι, env, M, hs, hm, post_imp (post_bind h) fun d M1 H1 ι1 e1 hm1 h1 x rx => ?_⟩
  cases rx <;> first | exact ⟨_, rfl, post_ok h1 hm1 _ (.bl _)⟩ | exact h1.elim
theorem de_and (ha : PE X a (tE X.K ca W fa)) (hb : PE X (.BoolOp .And (b :: es) pos) (tE X.K ca W fb)) : PE X (.BoolOp .And (a :: b :: es) pos) (tE X.K ca W fun env M => (fa env M).bind fun x M => match x with
    | .bl true => fb env M
    | .bl false => .ok (.bl false) M
    | _ => .bad) := by
  refine (pe_and ha hb).weak fun σ H Q ⟨ι, env, M, hs, hm, h⟩ => ?_
  refine ⟨ι, env, M, hs, hm, post_imp (post_bind h) fun d M1 H1 ι1 e1 hm1 h1 x rx => ?_⟩
  cases rx with
  | bl k =>
    refine ⟨k, rfl, ?_⟩
    cases k with
    | true => exact iteT ⟨ι1, env, M1, hs.up e1, hm1, h1⟩
    | false => exact iteF (post_ok h1 hm1 _ (.bl false))
  | _ => exact h1.elim
theorem de_or (ha : PE X a (tE X.K ca W fa)) (hb : PE X (.BoolOp .Or (b :: es) pos) (tE X.K ca W fb)) : PE X (.BoolOp .Or (a :: b :: es) pos) (tE X.K ca W fun env M => (fa env M).bind fun x M => match x with
    | .bl true => .ok (.bl true) M
    | .bl false => fb env M
    | _ => .bad) := by
  refine (pe_or ha hb).weak fun σ H Q ⟨ι, env, M, hs, hm, h⟩ => ?_
  refine ⟨ι, env, M, hs, hm, post_imp (post_bind h) fun d M1 H1 ι1 e1 hm1 h1 x rx => ?_⟩
  cases rx with
  | bl k =>
    refine ⟨k, rfl, ?_⟩
    cases k with
    | true => exact iteT (post_ok h1 hm1 _ (.bl true))
    | false => exact iteF ⟨ι1, env, M1, hs.up e1, hm1, h1⟩
  | _ => exact h1.elim
theorem de_if {ga gb : Py.Env → Mem → Res D} (hc : PT X c (tT X.K ca W ft)) (ha : PE X a (tE X.K ca W ga)) (hb : PE X b (tE X.K ca W gb)) : PE X (.IfExp c a b pos) (tE X.K ca W fun env M => (ft env M).bind fun k M => match k with
    | true => ga env M
    | false => gb env M) := by
  refine (pe_ifExp hc ha hb).weak fun σ H Q ⟨ι, env, M, hs, hm, h⟩ => ?_
  refine ⟨ι, env, M, hs, hm, post_imp (post_bind h) fun k M1 H1 ι1 e1 hm1 h1 => ?_⟩
  cases k with
  | true => exact iteT ⟨ι1, env, M1, hs.up e1, hm1, h1⟩
  | false => exact iteF ⟨ι1, env, M1, hs.up e1, hm1, h1⟩
theorem dt_tr (ha : PE X a (tE X.K ca W fa)) (hp : trX a = true) : PT X a (tT X.K ca W fun env M => (fa env M).bind fun d M => .ofV (truth d M) M) := by
  refine (pt_truth ha (tr_of hp X.env)).weak fun σ H Q ⟨ι, env, M, hs, hm, h⟩ => ?_
  refine ⟨ι, env, M, hs, hm, post_imp (post_bind h) fun d M1 H1 ι1 e1 hm1 h1 x rx => ?_⟩
  obtain ⟨k, hk, q⟩ := post_ofV h1 hm1
  exact ⟨k, truth_ok hm1 rx hk, q⟩
theorem dt_not (ha : PT X a (tT X.K ca W ft)) : PT X (.UnaryOp .Not a pos) (tT X.K ca W fun env M => (ft env M).bind fun k M => .ok (!k) M) := by
  refine (pt_not ha).weak fun σ H Q ⟨ι, env, M, hs, hm, h⟩ => ?_
  exact ⟨ι, env, M, hs, hm, post_imp (post_bind h) fun k M1 H1 ι1 e1 hm1 h1 => post_ok h1 hm1⟩
theorem dw_and {ga gb : Py.Env → Mem → Res Bool} (ha : PT X a (tT X.K ca W ga)) (hb : PW X (.BoolOp .And (b :: es) pos) (tT X.K ca W gb)) : PW X (.BoolOp .And (a :: b :: es) pos) (tT X.K ca W fun env M => (ga env M).bind fun k M => match k with
    | true => gb env M
    | false => .ok false M) := by
  refine (pw_and ha hb).weak fun σ H Q ⟨ι, env, M, hs, hm, h⟩ => ?_
  refine ⟨ι, env, M, hs, hm, post_imp (post_bind h) fun k M1 H1 ι1 e1 hm1 h1 => ?_⟩
  cases k with
  | true => exact iteT ⟨ι1, env, M1, hs.up e1, hm1, h1⟩
  | false => exact iteF (post_ok h1 hm1)
theorem dw_or {ga gb : Py.Env → Mem → Res Bool} (ha : PT X a (tT X.K ca W ga)) (hb : PW X (.BoolOp .Or (b :: es) pos) (tT X.K ca W gb)) : PW X (.BoolOp .Or (a :: b :: es) pos) (tT X.K ca W fun env M => (ga env M).bind fun k M => match k with
    | true => .ok true M
    | false => gb env M) := by
  refine (pw_or ha hb).weak fun σ H Q ⟨ι, env, M, hs, hm, h⟩ => ?_
  refine ⟨ι, env, M, hs, hm, post_imp (post_bind h) fun k M1 H1 ι1 e1 hm1 h1 => ?_⟩
  cases k with
  | true => exact iteT (post_ok h1 hm1)
  | false => exact iteF ⟨ι1, env, M1, hs.up e1, hm1, h1⟩

/-! ### subscripts -/
theorem de_ix {k : Nat} (hr : Room k X.A) (ha : PE X a (tE X.K ca W fa)) (hb : PE X b (tE X.K ca W fb)) (hp : plainX b = true) :
    PE X (.Subscript a b pos) (tE X.K ca W fun env M => (fa env M).bind fun x M => (fb env M).bind fun y M => .ofV (opIx x y M) M) := by
  refine (pe_ix (ix_ok hr) ha hb (ix_of hp)).weak fun σ H Q ⟨ι, env, M, hs, hm, h⟩ => ?_
  refine ⟨ι, env, M, hs, hm, post_imp (post_bind h) fun dx M1 H1 ι1 e1 hm1 h1 x rx => ?_⟩
  refine ⟨ι1, env, M1, hs.up e1, hm1, post_imp (post_bind h1) fun dy M2 H2 ι2 e2 hm2 h2 y ry => ?_⟩
  obtain ⟨d, hd, q⟩ := post_ofV h2 hm2
  exact ⟨ι2, M2, dx, dy, d, hm2, rx.up e2, ry, hd, q⟩
theorem do_none : PO X none (tO X.K ca W fun _ M => .ok none M) := po_none.weak fun σ H Q ⟨ι, env, M, hs, hm, h⟩ => post_ok h hm
theorem do_some (he : PE X e (tE X.K ca W fa)) : PO X (some e) (tO X.K ca W fun env M => (fa env M).bind fun d M => match d with
    | .int i => .ok (some i) M
    | _ => .bad) := by
  refine (po_some he).weak fun σ H Q ⟨ι, env, M, hs, hm, h⟩ => ?_
  refine ⟨ι, env, M, hs, hm, post_imp (post_bind h) fun d M1 H1 ι1 e1 hm1 h1 x rx => ?_⟩
  cases rx <;> first | exact ⟨_, rfl, post_ok h1 hm1⟩ | exact h1.elim
theorem de_slice {lo hi : Option Expr} {p2 : Pos} {fl fh : Py.Env → Mem → Res (Option Int)} (ha : PE X a (tE X.K ca W fa)) (hl : PO X lo (tO X.K ca W fl)) (hh : PO X hi (tO X.K ca W fh)) :
    PE X (.Subscript a (.Slice lo hi none p2) pos) (tE X.K ca W fun env M => (fa env M).bind fun x M => (fl env M).bind fun l M => (fh env M).bind fun h M => .ofO (opSlice x l h M)) := by
  refine (pe_slice slice_ok ha hl hh).weak fun σ H Q ⟨ι, env, M, hs, hm, h⟩ => ?_
  refine ⟨ι, env, M, hs, hm, post_imp (post_bind h) fun dx M1 H1 ι1 e1 hm1 h1 x rx => ?_⟩
  refine ⟨ι1, env, M1, hs.up e1, hm1, post_imp (post_bind h1) fun l M2 H2 ι2 e2 hm2 h2 => ?_⟩
  refine ⟨ι2, env, M2, (hs.up e1).up e2, hm2, post_imp (post_bind h2) fun u M3 H3 ι3 e3 hm3 h3 => ?_⟩
  obtain ⟨d, M4, ho, q⟩ := post_ofO h3
  exact ⟨ι3, M3, dx, d, M4, hm3, (rx.up e2).up e3, ho, fun H' ι' v e' hm' r' => q H' ι' e' hm' v r'⟩

/-! ### calls -/
/-- what a def promises, over data -/
def spD (K : Fr) (ca : Nat → Addr × List Str) (np : Nat) (r : List D → Mem → Res D) : Sp := fun vs H Q E => ∃ ι ds M, RM K H ι M ∧ RVs K H ι ds vs ∧ ds.length = np ∧ post K ca (fun c d _ H' => E c d H') [] H ι (r ds M) (CD K Q)
theorem post_wish {α : Type} {K : Fr} {W' : WX} {σ σ' : L2.St} {H : Hp} {ι : List Addr} {r : Res α} {C : α → Mem → Hp → List Addr → Prop} (h : post K ca W σ H ι r C) (w : ∀ c d H', W c d σ H' → W' c d σ' H') : post K ca W' σ' H ι r C := by
  cases r with
  | ok a M' => exact h
  | exc x M' => exact fun H' ι' c d e' hm rx => w _ _ _ (h H' ι' c d e' hm rx)
  | bad => exact h
theorem passesAt_of (tk : Takes X W) (σ : L2.St) : PassesAt (L2.CX X.prog X.w) X σ (fun c d H => W c d σ H) := fun pins H s e s' I c => tk e s' (XE.of_call I (fun cls d H' h => h) c)
theorem de_call {k np : Nat} {f : Addr} {fd : FuncData} {ps : List Str} {x : Str} {p : Pos} {r : List D → Mem → Res D} (F : FnOk X.prog X.w X.K X.mg X.base (L2.CX X.prog X.w) k f fd ps (spD X.K ca np r)) (hr : Room k X.A) (hg : Gl X x) (hm : X.mg x = some (.ref f))
    (hk : PySem.W.keepIn X.K (.ref f) = true) (hb : Binds X.K fd ps []) (tk : Takes X W) (ha : PA X (e :: es) (tA X.K ca W fs)) (hdb : (x == ("__debug__" : Str)) = false) (hp : plainX e = true) (hps : es.all plainX = true) (hlen : ∀ ds M, ds.length ≠ np → r ds M = .bad) :
    PE X (.Call (.Name x p) (e :: es) [] pos) (tE X.K ca W fun env M => (fs env M).bind fun ds M => r ds M) := by
  refine (pe_callSD F hr hg hm hk hb .nil (passesAt_of tk) ha hdb (star_of hp es X.env) (stars_of pos X.env hps).1).weak fun σ H Q ⟨ι, env, M, hs, hm, h⟩ => ?_
  refine ⟨ι, env, M, hs, hm, post_imp (post_bind h) fun ds M1 H1 ι1 e1 hm1 h1 vs rs => ?_⟩
  refine ⟨ι1, ds, M1, hm1, by rw [List.append_nil]; exact rs, ?_, post_wish h1 fun _ _ _ z => z⟩
  by_cases hn : ds.length = np
  · exact hn
  · rw [hlen ds M1 hn] at h1; exact h1.elim
theorem de_biB {x : Str} {id : String} {p : Pos} {b : Bi} (hc : CallR X (.builtin id) (rBi X.K b)) (hg : Gl X x) (hm : X.mg x = none) (hv : bootBuiltins x = some (.builtin id)) (ha : PA X (e :: es) (tA X.K ca W fs)) (hn : x ≠ "__name__") (hdb : (x == ("__debug__" : Str)) = false)
    (hp : plainX e = true) (hps : es.all plainX = true) : PE X (.Call (.Name x p) (e :: es) [] pos) (tE X.K ca W fun env M => (fs env M).bind fun ds M => .ofO (opBi b ds M)) := by
  refine (pe_callB hc hg hm hv ha hn hdb (star_of hp es X.env) (stars_of pos X.env hps).1).weak fun σ H Q ⟨ι, env, M, hs, hm, h⟩ => ?_
  refine ⟨ι, env, M, hs, hm, post_imp (post_bind h) fun ds M1 H1 ι1 e1 hm1 h1 vs rs => ?_⟩
  obtain ⟨d, M2, ho, q⟩ := post_ofO h1
  exact ⟨ι1, M1, ds, d, M2, hm1, rs, ho, fun H' ι' v e' hm' r' => q H' ι' e' hm' v r'⟩
theorem de_biT {x : Str} {id : String} {p : Pos} {b : Bi} (hc : CallR X (.type id) (rBi X.K b)) (hg : Gl X x) (hm : X.mg x = none) (hv : bootBuiltins x = some (.type id)) (ha : PA X (e :: es) (tA X.K ca W fs)) (hn : x ≠ "__name__") (hdb : (x == ("__debug__" : Str)) = false)
    (hp : plainX e = true) (hps : es.all plainX = true) : PE X (.Call (.Name x p) (e :: es) [] pos) (tE X.K ca W fun env M => (fs env M).bind fun ds M => .ofO (opBi b ds M)) := by
  refine (pe_callTy hc hg hm hv ha hn hdb (star_of hp es X.env) (stars_of pos X.env hps).1).weak fun σ H Q ⟨ι, env, M, hs, hm, h⟩ => ?_
  refine ⟨ι, env, M, hs, hm, post_imp (post_bind h) fun ds M1 H1 ι1 e1 hm1 h1 vs rs => ?_⟩
  obtain ⟨d, M2, ho, q⟩ := post_ofO h1
  exact ⟨ι1, M1, ds, d, M2, hm1, rs, ho, fun H' ι' v e' hm' r' => q H' ι' e' hm' v r'⟩
theorem de_isi {x n : Str} {T : String} {p p2 : Pos} {b : Bi} (hT : isName b = some T) (hg : Gl X x) (hm : X.mg x = none) (hv : bootBuiltins x = some (.builtin "isinstance")) (ha : PA X [a] (tA X.K ca W fs)) (hn : x ≠ "__name__") (hdb : (x == ("__debug__" : Str)) = false)
    (hg2 : Gl X n) (hm2 : X.mg n = none) (hv2 : bootBuiltins n = some (.type T)) (hn2 : n ≠ "__name__") (hdb2 : (n == ("__debug__" : Str)) = false) (hp : plainX a = true) (he : PE X a (tE X.K ca W fa)) (hfs : fs = fun env M => (fa env M).bind fun d M => .ok [d] M) :
    PE X (.Call (.Name x p) [a, .Name n p2] [] pos) (tE X.K ca W fun env M => (fs env M).bind fun ds M => .ofO (opBi b ds M)) := by
  subst hfs
  have hty : PE X (.Name n p2) (tC (.ty T)) := pe_bltn hg2 hm2 hv2 rfl hn2 hdb2
  refine (pe_callB (bi_isi hT) hg hm hv (pa_cons he (pa_cons hty pa_nil (star_of rfl _ _)) (star_of hp _ _)) hn hdb (star_of hp _ X.env) (stars_of pos X.env (by rfl)).1).weak fun σ H Q ⟨ι, env, M, hs, hm, h⟩ => ?_
  refine ⟨ι, env, M, hs, hm, post_imp (post_bind (post_bind h)) fun d M1 H1 ι1 e1 hm1 h1 x rx => ?_⟩
  have h2 := post_ok h1 hm1
  obtain ⟨d', M2, ho, q⟩ := post_ofO h2
  exact ⟨x, rfl, ι1, M1, [d], d', M2, hm1, .cons rx .nil, ho, fun H' ι' v e' hm' r' => q H' ι' e' hm' v r'⟩
end
end Py

set_option Elab.async false
set_option autoImplicit false
set_option linter.all false
set_option maxRecDepth 100000
set_option maxHeartbeats 4000000
/-! E9: methods, walks, list comprehensions. -/
namespace Py
open PySem PySem.Spec PyProof.Rows L2
section
variable {X : Cx} {ca : Nat → Addr × List Str} {W : WX} {a b c e : Expr} {es : List Expr} {pos : Pos} {fa fb fc : Py.Env → Mem → Res D} {fs : Py.Env → Mem → Res (List D)} {ft : Py.Env → Mem → Res Bool}
theorem isLst_of {M : Mem} {n : Nat} (h : isLst M n = true) : ∃ xs, M[n]? = some (.lst xs) := by
  unfold isLst at h
  split at h
  · exact ⟨_, by assumption⟩
  · cases h
def meTy : Me → String | .join => "str" | _ => "list"
theorem meOk_ty {K : Fr} {H : Hp} {ι : List Addr} {M : Mem} {m : Me} {o : D} {x : V} (hm : RM K H ι M) (r : RV K H ι o x) (h : meOk m o M = true) : tyV K (meTy m) x H := by
  cases m <;> cases o <;> simp only [meOk] at h <;> first | (cases h; done) | skip
  all_goals first
    | (cases r; exact (rfl : "str" = "str"))
    | (obtain ⟨xs, e⟩ := isLst_of h
       obtain ⟨p, vs, rfl, _, hH, _⟩ := hm.lst e r
       exact .inl ⟨rfl, vs, SqL.of hH⟩)
theorem few_of (pos : Pos) (env : PySem.Env) {es : List Expr} (h : es.all plainX = true) (hl : es.length < 20) : ((backTo pos (starEach es env)).all (fun x => !x.1) && (backToKw pos (keywordEach [] env)).all (fun x => x.1.isSome)
      && decide (es.length + ([] : List Keyword).length + (if ([] : List Keyword).isEmpty then 0 else 1) < 30)) = true := by
  rw [(stars_of pos env h).2]
  show (true && true && decide (es.length + 0 + 0 < 30)) = true
  rw [decide_eq_true (by omega)]
  rfl
theorem de_meth {m : Me} {T id : String} {apos : Pos} (hT : meTy m = T) (pa : PlainAttrs T) (slot : Slot T (meName m) id) (hty : typeOf (.builtin id) = pure (.type "method_descriptor")) (hmt : MtR X id (rMe X.K m)) (ho : PE X a (tE X.K ca W fa))
    (ha : PA X (e :: es) (tA X.K ca W fs)) (hb : baseX a = true) (hps : (e :: es).all plainX = true) (hl : (e :: es).length < 20) (hline : (apos.endLine == pos.line) = true) :
    PE X (.Call (.Attribute a (meName m) apos) (e :: es) [] pos) (tE X.K ca W fun env M => (fa env M).bind fun x M => match meOk m x M with
      | true => (fs env M).bind fun ds M => .ofO (opMe m x ds M)
      | false => .bad) := by
  have hp : plainX e = true ∧ es.all plainX = true := by rw [List.all_cons, Bool.and_eq_true] at hps; exact hps
  refine (pe_bm pa slot hty hmt ho ha (base_of hb _ _) (few_of pos X.env hps hl) hline (star_of hp.1 _ _) (stars_of pos X.env hp.2).1).weak fun σ H Q ⟨ι, env, M, hs, hm, h⟩ => ?_
  refine ⟨ι, env, M, hs, hm, post_imp (post_bind h) fun dx M1 H1 ι1 e1 hm1 h1 x rx => ?_⟩
  split at h1
  · rename_i hok
    refine ⟨by rw [← hT]; exact meOk_ty hm1 rx hok, ι1, env, M1, hs.up e1, hm1, post_imp (post_bind h1) fun ds M2 H2 ι2 e2 hm2 h2 vs rs => ?_⟩
    obtain ⟨d, M3, ho, q⟩ := post_ofO h2
    exact ⟨ι2, M2, dx, ds, d, M3, hm2, rx.up e2, rs, ho, fun H' ι' v e' hm' r' => q H' ι' e' hm' v r'⟩
  · exact h1.elim
theorem de_meth0 {m : Me} {T id : String} {apos : Pos} (hT : meTy m = T) (pa : PlainAttrs T) (slot : Slot T (meName m) id) (hty : typeOf (.builtin id) = pure (.type "method_descriptor")) (hmt : MtR X id (rMe X.K m)) (ho : PE X a (tE X.K ca W fa))
    (hb : baseX a = true) (hline : (apos.endLine == pos.line) = true) :
    PE X (.Call (.Attribute a (meName m) apos) [] [] pos) (tE X.K ca W fun env M => (fa env M).bind fun x M => match meOk m x M with
      | true => (Res.ok [] M).bind fun ds M => .ofO (opMe m x ds M)
      | false => .bad) := by
  refine (pe_bm0 pa slot hty hmt ho (base_of hb _ _) hline).weak fun σ H Q ⟨ι, env, M, hs, hm, h⟩ => ?_
  refine ⟨ι, env, M, hs, hm, post_imp (post_bind h) fun dx M1 H1 ι1 e1 hm1 h1 x rx => ?_⟩
  split at h1
  · rename_i hok
    refine ⟨by rw [← hT]; exact meOk_ty hm1 rx hok, ?_⟩
    obtain ⟨d, M3, ho, q⟩ := post_ofO (post_ok (post_bind h1) hm1)
    exact ⟨ι1, M1, dx, [], d, M3, hm1, rx, .nil, ho, fun H' ι' v e' hm' r' => q H' ι' e' hm' v r'⟩
  · exact h1.elim

/-! ### walks -/
theorem di_keys {tg : Expr} {i : Nat} (he : PE X e (tE X.K ca W fun env M => .ofV ((env[i]?).bind id) M)) : PI X tg e (tI X.K ca W fun env M => .ofV (keysAt ((env[i]?).bind id) M) M) := by
  refine (pi_keys he).weak fun σ H R ⟨ι, env, M, hs, hm, h⟩ => ?_
  refine ⟨ι, env, M, hs, hm, ?_⟩
  unfold keysAt at h
  dsimp only at h ⊢
  split at h
  · rename_i n hn
    rw [hn]
    split at h
    · rename_i kvs hk
      intro H' ι' e' hm' v rv
      have q := h H' ι' e' hm'
      obtain ⟨a, od, vs, rfl, _, hH, hr⟩ := hm'.dL hk rv
      exact ⟨a, od, rfl, .inl ⟨vs, hH, q _ (.keys hH hr)⟩⟩
    · exact h.elim
  · exact h.elim
theorem di_seq {tg : Expr} (he : PE X e (tE X.K ca W fa)) : PI X tg e (tI X.K ca W fun env M => (fa env M).bind fun d M => .ofV (walkOf d M) M) := by
  refine (pi_any he).weak fun σ H R ⟨ι, env, M, hs, hm, h⟩ => ?_
  refine ⟨ι, env, M, hs, hm, post_imp (post_bind h) fun d M1 H1 ι1 e1 hm1 h1 x rx => ?_⟩
  obtain ⟨wk, hw, q⟩ := post_ofV h1 hm1
  unfold walkOf at hw
  split at hw
  · cases hw
    cases rx with | tup a b =>
    exact .inr (.inl ⟨_, rfl, ⟨_, a⟩, q _ (.tup a b)⟩)
  · cases hw
    cases rx with | rol a b =>
    exact .inl ⟨_, rfl, ⟨_, a.seq⟩, q _ (.rol a b)⟩
  · cases hw
    cases rx
    exact .inr (.inr ⟨_, rfl, q _ (.str _)⟩)
  · split at hw
    · rename_i n xs hx
      cases hw
      obtain ⟨p, vs, rfl, hp, hH, _⟩ := hm1.lst hx rx
      exact .inl ⟨_, rfl, ⟨_, SqL.of hH⟩, q _ (.live hp)⟩
    · cases hw
  · cases hw
theorem di_range1 {tg : Expr} {p : Pos} (hg : Gl X "range") (hm : X.mg "range" = none) (ha : PE X a (tE X.K ca W fa)) (hp : plainX a = true) : PI X tg (.Call (.Name "range" p) [a] [] pos) (tI X.K ca W fun env M => (fa env M).bind fun x M => match x with
    | .int j => if -big ≤ j ∧ j < big then .ok (.seq (rngD 0 j)) M else .bad
    | _ => .bad) := by
  refine (pi_range1 hg hm (pa_cons ha pa_nil (star_of hp _ _)) (star_of hp _ _)).weak fun σ H R ⟨ι, env, M, hs, hm, h⟩ => ?_
  refine ⟨ι, env, M, hs, hm, post_imp (post_bind h) fun d M1 H1 ι1 e1 hm1 h1 x rx => ?_⟩
  cases rx with
  | int j =>
    simp only at h1
    split at h1
    · rename_i hb
      refine ⟨j, rfl, hb.1, hb.2, ?_⟩
      have := RW.rng (K := X.K) (H := H1) (ι := ι1) 0 j.toNat
      unfold rngD at h1
      rw [Int.sub_zero] at h1
      exact post_ok h1 hm1 _ this
    · exact h1.elim
  | _ => exact h1.elim
theorem di_range2 {tg : Expr} {p : Pos} (hg : Gl X "range") (hm : X.mg "range" = none) (ha : PE X a (tE X.K ca W fa)) (hb : PE X b (tE X.K ca W fb)) (hp : plainX a = true) (hp2 : plainX b = true) : PI X tg (.Call (.Name "range" p) [a, b] [] pos) (tI X.K ca W fun env M => (fa env M).bind fun x M => (fb env M).bind fun y M => match x, y with
    | .int i, .int j => if -big ≤ i ∧ i < big ∧ -big ≤ j ∧ j < big then .ok (.seq (rngD i j)) M else .bad
    | _, _ => .bad) := by
  refine (pi_range2 hg hm (pa_cons ha (pa_cons hb pa_nil (star_of hp2 _ _)) (star_of hp _ _)) ((star_of hp _ _).trans (by rw [star_of hp2]; rfl)) (star_of hp2 _ _)).weak fun σ H R ⟨ι, env, M, hs, hm, h⟩ => ?_
  refine ⟨ι, env, M, hs, hm, post_imp (post_bind h) fun d M1 H1 ι1 e1 hm1 h1 x rx => ?_⟩
  refine ⟨ι1, env, M1, hs.up e1, hm1, post_imp (post_bind h1) fun d2 M2 H2 ι2 e2 hm2 h2 y ry => ?_⟩
  cases rx <;> cases ry <;> first | exact h2.elim | skip
  simp only at h2
  split at h2
  · rename_i hb
    exact ⟨_, _, rfl, hb, post_ok h2 hm2 _ (RW.rng _ _)⟩
  · exact h2.elim

/-! ### targets -/
/-- a target takes a value: the slots behind it are known but for those named -/
def tG (K : Fr) (tg : Tg) : TG := fun v σ H Q => ∃ ι env d env', RS K H ι σ env ∧ RV K H ι d v ∧ bindTg tg d env = some env' ∧ ∀ σ', RS K H ι σ' env' → (∀ vs : List Nat, (∀ i ∈ slotsOf tg, i ∈ vs) → wipe σ' vs = wipe σ vs) → Q σ' H
def tGs (K : Fr) (tgs : List Tg) : TGs := fun xs σ H Q => ∃ ι env ds env', RS K H ι σ env ∧ RVs K H ι ds xs ∧ bindTgs tgs ds env = some env' ∧ ∀ σ', RS K H ι σ' env' → (∀ vs : List Nat, (∀ i ∈ slotsOfs tgs, i ∈ vs) → wipe σ' vs = wipe σ vs) → Q σ' H
theorem wipe_set {σ : L2.St} {i : Nat} {o : Option V} : ∀ {vs : List Nat}, i ∈ vs → wipe (σ.set i o) vs = wipe σ vs
  | v :: vs, h => by
    unfold wipe
    by_cases e : i ∈ vs
    · rw [wipe_set e]
    · have hv : i = v := by
        rcases List.mem_cons.mp h with h | h
        · exact h
        · exact absurd h e
      subst hv
      have go : ∀ vs : List Nat, i ∉ vs → wipe (σ.set i o) vs = (wipe σ vs).set i o := by
        intro vs
        induction vs with
        | nil => intro _; rfl
        | cons w r ih =>
          intro hw
          unfold wipe
          rw [ih (fun z => hw (List.mem_cons_of_mem _ z)), List.set_comm _ _ (fun z => hw (by rw [z]; exact List.mem_cons_self))]
      rw [go vs e, List.set_set]
variable {N : List Str} {sc : Scope}
theorem asName_eq {ex : Expr} {x : Str} (h : asName ex = some x) : ∃ p, ex = .Name x p := asName_of h
mutual
theorem dg_tg (hN : X.N = N) (nd : N.Nodup) (hsc : X.env.scope = sc) (hc : X.calm = true) : ∀ (tg : Tg) (ex : Expr), ckTg N sc tg ex = true → (∀ i ∈ slotsOf tg, ∀ x, N[i]? = some x → X.fn x = true ∨ X.env.scope.names.lookup x = some .local) → PG X ex (tG X.K tg)
  | .name i, ex, h, hf => by
    unfold ckTg at h
    split at h
    · rename_i x hx
      obtain ⟨p, rfl⟩ := asName_of hx
      rw [Bool.and_eq_true] at h
      have h1 : N[i]? = some x := of_decide_eq_true h.1
      have base := pg_name (X := X) (pos := p) (hN ▸ nd) (by rw [hN]; exact h1) (by rw [hsc]; exact locB_of h.2) (hf i (by simp [slotsOf]) x h1)
      refine ⟨fun pins s σ H v u Q I r ⟨ι, env, d, env', hs, rd, hb, q⟩ => base.run pins s σ H v u Q I r ?_⟩
      cases hb
      exact q _ (hs.set rd) fun vs hvs => wipe_set (hvs i (by simp [slotsOf]))
    · cases h
  | .tup ts, ex, h, hf => by
    unfold ckTg at h
    split at h
    · rename_i es hx
      obtain ⟨k, p, rfl⟩ := asTup_of hx
      have sub := dg_tgs hN nd hsc hc ts es h fun i hi => hf i (by simpa [slotsOf] using hi)
      have hl : ∀ (es : List Expr), ckTgs N sc ts es = true → (assignEach es X.env).length = ts.length ∧ (assignEach es X.env).findIdx? (·.1) = none := fun es he => dg_len ts es he
      obtain ⟨l1, l2⟩ := hl es h
      have base := pg_tup (X := X) (pos := p) (k := k) hc sub l1 l2
      refine ⟨fun pins s σ H v u Q I r ⟨ι, env, d, env', hs, rd, hb, q⟩ => base.run pins s σ H v u Q I r ?_⟩
      cases d with
      | tup ds =>
        cases rd with | tup a b =>
        refine ⟨_, _, rfl, a, ?_, ι, env, ds, env', hs, b, hb, fun σ' r' w => q σ' r' fun vs hvs => w vs fun i hi => hvs i (by simpa [slotsOf] using hi)⟩
        rw [← b.length]
        exact dg_blen ts ds env env' hb
      | _ => cases hb
    · cases h
theorem dg_tgs (hN : X.N = N) (nd : N.Nodup) (hsc : X.env.scope = sc) (hc : X.calm = true) : ∀ (ts : List Tg) (es : List Expr), ckTgs N sc ts es = true → (∀ i ∈ slotsOfs ts, ∀ x, N[i]? = some x → X.fn x = true ∨ X.env.scope.names.lookup x = some .local) → PGs X es (tGs X.K ts)
  | [], es, h, hf => by
    cases es with
    | nil =>
      refine ⟨fun pins s σ H vs us Q I r ⟨ι, env, ds, env', hs, rd, hb, q⟩ => (pgs_nil (X := X)).run pins s σ H vs us Q I r ?_⟩
      cases ds with
      | nil => cases rd; cases hb; exact ⟨rfl, q _ hs fun _ _ => rfl⟩
      | cons => cases hb
    | cons => cases h
  | t :: ts, es, h, hf => by
    cases es with
    | nil => cases h
    | cons e es =>
      have h : (ckTg N sc t e && ckTgs N sc ts es) = true := h
      rw [Bool.and_eq_true] at h
      have h1 := dg_tg hN nd hsc hc t e h.1 fun i hi => hf i (by simp [slotsOfs, hi])
      have h2 := dg_tgs hN nd hsc hc ts es h.2 fun i hi => hf i (by simp [slotsOfs, hi])
      have base := pgs_cons h1 h2 (dg_cons t e h.1)
      refine ⟨fun pins s σ H vs us Q I r ⟨ι, env, ds, env', hs, rd, hb, q⟩ => base.run pins s σ H vs us Q I r ?_⟩
      cases ds with
      | nil => cases hb
      | cons d ds =>
        obtain ⟨env1, hb1, hb2⟩ := Option.bind_eq_some_iff.mp (show (bindTg t d env).bind (fun env' => bindTgs ts ds env') = some env' from hb)
        cases rd with | cons r1 r2 =>
        refine ⟨_, _, rfl, ι, env, d, env1, hs, r1, hb1, fun σ1 hs1 w1 => ⟨ι, env1, ds, env', hs1, r2, hb2, fun σ2 hs2 w2 => q σ2 hs2 fun vs hvs => ?_⟩⟩
        rw [w2 vs fun i hi => hvs i (by simp [slotsOfs, hi]), w1 vs fun i hi => hvs i (by simp [slotsOfs, hi])]
theorem dg_cons : ∀ (t : Tg) (e : Expr), ckTg N sc t e = true → ∀ {es : List Expr}, (assignEach (e :: es) X.env).map (·.2) = assign e X.env :: (assignEach es X.env).map (·.2)
  | .name i, e, h => by
    unfold ckTg at h
    split at h
    · rename_i x hx
      obtain ⟨p, rfl⟩ := asName_of hx
      rfl
    · cases h
  | .tup ts, e, h => by
    unfold ckTg at h
    split at h
    · rename_i x hx
      obtain ⟨k, p, rfl⟩ := asTup_of hx
      rfl
    · cases h
theorem dg_len : ∀ (ts : List Tg) (es : List Expr), ckTgs N sc ts es = true → (assignEach es X.env).length = ts.length ∧ (assignEach es X.env).findIdx? (·.1) = none
  | [], [], h => ⟨rfl, rfl⟩
  | [], _ :: _, h => by cases h
  | _ :: _, [], h => by cases h
  | t :: ts, e :: es, h => by
    have h : (ckTg N sc t e && ckTgs N sc ts es) = true := h
    rw [Bool.and_eq_true] at h
    obtain ⟨l1, l2⟩ := dg_len ts es h.2
    have he : assignEach (e :: es) X.env = (false, assign e X.env) :: assignEach es X.env := by
      cases t with
      | name i =>
        have h1 := h.1
        unfold ckTg at h1
        split at h1
        · rename_i x hx
          obtain ⟨p, rfl⟩ := asName_of hx
          rfl
        · cases h1
      | tup ts =>
        have h1 := h.1
        unfold ckTg at h1
        split at h1
        · rename_i x hx
          obtain ⟨k, p, rfl⟩ := asTup_of hx
          rfl
        · cases h1
    rw [he]
    refine ⟨by rw [List.length_cons, List.length_cons, l1], ?_⟩
    rw [List.findIdx?_cons]
    simp [l2]
theorem dg_blen : ∀ (ts : List Tg) (ds : List D) (env env' : Py.Env), bindTgs ts ds env = some env' → ds.length = ts.length
  | [], [], _, _, _ => rfl
  | [], _ :: _, _, _, h => by cases h
  | _ :: _, [], _, _, h => by cases h
  | t :: ts, d :: ds, env, env', h => by
    obtain ⟨env1, hb1, hb2⟩ := Option.bind_eq_some_iff.mp (show (bindTg t d env).bind (fun env' => bindTgs ts ds env') = some env' from h)
    rw [List.length_cons, List.length_cons, dg_blen ts ds env1 env' hb2]
end
theorem RS.wipe {K : Fr} {H : Hp} {ι : List Addr} {σ : L2.St} {env : Py.Env} (h : RS K H ι σ env) : ∀ vs : List Nat, RS K H ι (L2.wipe σ vs) (wipeE env vs)
  | [] => h
  | v :: vs => by
    have ih := RS.wipe h vs
    unfold L2.wipe wipeE
    refine ⟨by rw [List.length_set, List.length_set]; exact ih.len, fun j d q => ?_⟩
    by_cases e : v = j
    · subst e
      have hl : v < (wipeE env vs).length := by
        have := (List.getElem?_eq_some_iff.mp q).1
        rwa [List.length_set] at this
      rw [List.getElem?_set_self hl] at q
      cases q
    · rw [List.getElem?_set_ne e] at q ⊢
      exact ih.at_ j d q
end
end Py

set_option Elab.async false
set_option autoImplicit false
set_option linter.all false
set_option maxRecDepth 100000
set_option maxHeartbeats 4000000
/-! E10: list comprehensions; an expression's text does what its IR says. -/
namespace Py
open PySem PySem.Spec PyProof.Rows L2
theorem ifT {A B : Prop} (h : if true = true then A else B) : A := by simpa using h
theorem ifF {A B : Prop} (h : if false = true then A else B) : B := by simpa using h
/-- a walk over items that stand -/
structure Wlk (K : Fr) (J : L2.It) (ds : List D) (H0 : Hp) (ι0 : List Addr) : Prop where
  go : ∀ (i : Nat) (d : D) (H : Hp) (ι : List Addr), Ext H0 ι0 H ι → ds[i]? = some d → J.go i H ∧ ∀ x H', J.yld i H x H' → Ext H ι H' ι ∧ (∀ M, RM K H ι M → RM K H' ι M) ∧ RV K H' ι d x
  stop : ∀ (H : Hp) (ι : List Addr), Ext H0 ι0 H ι → J.stop ds.length H
section
variable {K : Fr} {H : Hp} {ι : List Addr}
theorem pair_get {α β : Type} {F : α → β → Prop} : ∀ {l : List α} {m : List β} {i : Nat} {x : α}, Paired F l m → l[i]? = some x → ∃ y, m[i]? = some y ∧ F x y
  | [], _, _, _, _, e => by simp at e
  | a :: l, _, 0, x, h, e => by
    cases h with
    | cons h1 h2 => simp at e; subst e; exact ⟨_, rfl, h1⟩
  | a :: l, _, i + 1, x, h, e => by
    cases h with
    | cons h1 h2 =>
      obtain ⟨y, e1, e2⟩ := pair_get (i := i) h2 (by simpa using e)
      exact ⟨y, by simpa using e1, e2⟩
theorem walk_of {ds : List D} {J : L2.It} (h : RW K H ι (.seq ds) J) : Wlk K J ds H ι := by
  cases h with
  | tup a b =>
    refine ⟨fun i d H' ι' e hd => ?_, fun H' ι' e => ⟨_, Py.SqT.le a e.le, by rw [← b.length]; exact Nat.le_refl _⟩⟩
    obtain ⟨v, hv, r⟩ := b.get hd
    refine ⟨⟨_, v, Py.SqT.le a e.le, hv⟩, fun x H'' hy => ?_⟩
    obtain ⟨rfl, hy⟩ := hy
    have : v = x := Option.some.inj (hv.symm.trans (hy _ (Py.SqT.le a e.le)))
    subst this
    exact ⟨Ext.refl _ _, fun _ m => m, r.up e⟩
  | rol a b =>
    refine ⟨fun i d H' ι' e hd => ?_, fun H' ι' e => ⟨_, (a.le e.le).seq, by rw [← b.length]; exact Nat.le_refl _⟩⟩
    obtain ⟨v, hv, r⟩ := b.get hd
    refine ⟨⟨_, v, (a.le e.le).seq, hv⟩, fun x H'' hy => ?_⟩
    obtain ⟨rfl, hy⟩ := hy
    have : v = x := Option.some.inj (hv.symm.trans (hy _ (a.le e.le).seq))
    subst this
    exact ⟨Ext.refl _ _, fun _ m => m, r.up e⟩
  | keys hH hr =>
    rename_i a o vs kvs
    have hl : kvs.length = vs.length := Paired.length hr
    refine ⟨fun i d H' ι' e hd => ?_, fun H' ι' e => ⟨e.le.frzs _ _ _ hH, by rw [List.length_map, hl]; exact Nat.le_refl _⟩⟩
    rw [List.getElem?_map] at hd
    cases z : kvs[i]? with
    | none => rw [z] at hd; cases hd
    | some p =>
      rw [z] at hd
      cases hd
      have hi : i < kvs.length := (List.getElem?_eq_some_iff.mp z).1
      refine ⟨⟨e.le.frzs _ _ _ hH, by rw [← hl]; exact hi⟩, fun x H'' hy => ?_⟩
      obtain ⟨rfl, k, v, hk, rfl⟩ := hy
      obtain ⟨q, hq, r⟩ := pair_get hr z
      rw [hq] at hk
      cases hk
      have : p.1 = k := r.1
      subst this
      refine ⟨Ext.refl _ _, fun _ m => m, ?_⟩
      obtain ⟨k, d⟩ := p
      show RV K H'' ι' (keyD k) (kV k)
      cases k with
      | inl i => exact .int i
      | inr s => exact .str s.cps.toList
  | str s =>
    refine ⟨fun i d H' ι' e hd => ?_, fun H' ι' e => by show s.toArray.size ≤ _; simp⟩
    rw [List.getElem?_map] at hd
    cases z : s[i]? with
    | none => rw [z] at hd; cases hd
    | some c =>
      rw [z] at hd
      cases hd
      have hi : i < s.length := (List.getElem?_eq_some_iff.mp z).1
      refine ⟨by show i < s.toArray.size; simpa using hi, fun x H'' hy => ?_⟩
      obtain ⟨rfl, c', hc, rfl⟩ := hy
      have : c' = c := by
        have h2 : s[i]? = some c' := by simpa using hc
        exact Option.some.inj (h2.symm.trans z)
      subst this
      exact ⟨Ext.refl _ _, fun _ m => m, .str [c']⟩
  | rng lo n =>
    refine ⟨fun i d H' ι' e hd => ?_, fun H' ι' e => by show n ≤ _; simp⟩
    rw [List.getElem?_map] at hd
    cases z : (List.range n)[i]? with
    | none => rw [z] at hd; cases hd
    | some c =>
      rw [z] at hd
      cases hd
      obtain ⟨hi, hc⟩ := List.getElem?_eq_some_iff.mp z
      have : c = i := by simpa using hc.symm
      subst this
      refine ⟨by show c < n; simpa using hi, fun x H'' hy => ?_⟩
      obtain ⟨rfl, rfl⟩ := hy
      exact ⟨Ext.refl _ _, fun _ m => m, .int _⟩
end
section
variable {X : Cx} {ca : Nat → Addr × List Str} {W : WX} {fi : Py.Env → Mem → Res Wk} {ft : Py.Env → Mem → Res Bool} {fe : Py.Env → Mem → Res D}
abbrev W0 : WX := fun _ _ _ _ => False
theorem post_noExc {α : Type} {K : Fr} {W W' : WX} {σ σ' : L2.St} {H : Hp} {ι : List Addr} {r : Res α} {C : α → Mem → Hp → List Addr → Prop} (h : post K ca W σ H ι (noExc r) C) : post K ca W' σ' H ι r C := by
  cases r with
  | ok a M' => exact h
  | exc x M' => exact h.elim
  | bad => exact h.elim
def lcTurn (ft : Py.Env → Mem → Res Bool) (fe : Py.Env → Mem → Res D) (tg : Tg) (own : List Nat) (env : Py.Env) : D → Mem → Res (Option D) := fun d M => match bindTg tg d (wipeE env own) with
  | some env' => noExc ((ft env' M).bind fun k M => match k with
    | true => (fe env' M).bind fun y M => .ok (some y) M
    | false => .ok none M)
  | none => .bad
theorem appendAt_of {n : Nat} {y : D} {M M' : Mem} (h : appendAt n y M = some M') : ∃ xs, M[n]? = some (.lst xs) ∧ xs.length < sizeLine ∧ M' = M.set n (.lst (xs ++ [y])) := by
  unfold appendAt at h
  split at h
  · split at h
    · cases h; exact ⟨_, by assumption, by assumption, rfl⟩
    · cases h
  · cases h
theorem lc_turn {K : Fr} {tg : Tg} {own : List Nat} {σ : L2.St} {env : Py.Env} {H : Hp} {ι : List Addr} {M : Mem} {d : D} {x : V} {n0 : Nat} {Dn : Addr} {rest : Mem → Res Unit} {C : Unit → Mem → Hp → List Addr → Prop}
    (hs : RS K H ι σ env) (hm : RM K H ι M) (rd : RV K H ι d x) (hD : ι[n0]? = some Dn) (hsl : ∀ i ∈ slotsOf tg, i ∈ own)
    (h : post K ca W σ H ι ((lcTurn ft fe tg own env d M).bind fun o M' => match o with
      | some y => (match appendAt n0 y M' with
        | some M'' => rest M''
        | none => .bad)
      | none => rest M') C) :
    tG K tg x (wipe σ own) H fun σ2 H2 => wipe σ2 own = wipe σ own ∧ tT K ca W0 ft σ2 H2 fun b H3 =>
      if b = true then tE K ca W0 fe σ2 H3 fun y H4 => ∃ acc, H4 Dn = some (.lst acc) ∧ acc.length < sizeLine ∧ (∃ ι'' M'', Ext H ι (upd H4 Dn (.lst (acc ++ [y]))) ι'' ∧ RM K (upd H4 Dn (.lst (acc ++ [y]))) ι'' M'' ∧ post K ca W σ (upd H4 Dn (.lst (acc ++ [y]))) ι'' (rest M'') C)
      else (∃ ι'' M'', Ext H ι H3 ι'' ∧ RM K H3 ι'' M'' ∧ post K ca W σ H3 ι'' (rest M'') C) := by
  have h' := post_bind h
  unfold lcTurn at h'
  split at h'
  · rename_i env' hb
    have h2 := fun σ' => post_noExc (W' := W0) (σ' := σ') h'
    have wl : ∀ vs : List Nat, (wipe (wipe σ vs) vs) = wipe σ vs := fun vs => by
      induction vs with
      | nil => rfl
      | cons v r ih =>
        have go : ∀ (τ : L2.St) (ws : List Nat), wipe (τ.set v none) ws = (wipe τ ws).set v none := fun τ ws => by
          induction ws with
          | nil => rfl
          | cons u t iu =>
            unfold wipe
            rw [iu]
            by_cases e : u = v
            · subst e; rfl
            · exact List.set_comm _ _ (fun z => e z.symm)
        show (wipe ((wipe σ r).set v none) r).set v none = (wipe σ r).set v none
        rw [go, ih, List.set_set]
    refine ⟨ι, wipeE env own, d, env', hs.wipe own, rd, hb, fun σ2 hs2 hw2 => ⟨by rw [hw2 own hsl, wl], ι, env', M, hs2, hm, post_imp (post_bind (h2 σ2)) fun b M1 H1 ι1 e1 hm1 h1 => ?_⟩⟩
    cases b with
    | true =>
      refine iteT ⟨ι1, env', M1, hs2.up e1, hm1, post_imp (post_bind h1) fun y M2 H2 ι2 e2 hm2 h3 v rv => ?_⟩
      have h4 := post_ok h3 hm2
      simp only at h4
      split at h4
      · rename_i M3 ha
        obtain ⟨xs, hx, hl, rfl⟩ := appendAt_of ha
        obtain ⟨a, o, g1, g2, vs, rfl, g3⟩ := hm2.at_ n0 _ hx
        have e12 := e1.trans e2
        rw [pre_get hD e12.pre] at g1
        cases g1
        obtain ⟨e3, m3⟩ := hm2.set (o := .lst (vs ++ [v])) (m := .lst (xs ++ [y])) hx (pre_get hD e12.pre) ⟨_, rfl, g3.append (.cons rv .nil)⟩
        exact ⟨vs, g2, by rw [← g3.length]; exact hl, ι2, _, e12.trans e3, m3, post_up h4 e3⟩
      · exact h4.elim
    | false =>
      have h4 := post_ok h1 hm1
      exact iteF ⟨ι1, M1, e1, hm1, h4⟩
  · exact h'.elim
def lcEnd (K : Fr) (ca : Nat → Addr × List Str) (W : WX) (σ : L2.St) (n0 : Nat) (Q : VK) : Unit → Mem → Hp → List Addr → Prop := fun _ M' H' ι' => post K ca W σ H' ι' (.ok (.obj n0) M') (CD K Q)
/-- what a list comprehension does -/
def lcD (fi : Py.Env → Mem → Res Wk) (ft : Py.Env → Mem → Res Bool) (fe : Py.Env → Mem → Res D) (tgt : Tg) (own : List Nat) : Py.Env → Mem → Res D := fun env M => (fi env M).bind fun wk M => (match wk with
        | .seq xs => lcSeq (lcTurn ft fe tgt own env) M.length xs (M ++ [MO.lst []])
        | .live n => lcLive (lcTurn ft fe tgt own env) M.length n (lenAt M n) 0 (M ++ [MO.lst []])).bind fun _ M' => .ok (.obj M.length) M'
theorem lc_weak {own : List Nat} {ownp : List (Str × Nat)} {tgt : Tg} (hown : ownp.map (·.2) = own) (hsl : ∀ i ∈ slotsOf tgt, i ∈ own) (σ : L2.St) (H : Hp) (Q : VK) (h : tE X.K ca W (lcD fi ft fe tgt own) σ H Q) :
    tLc (tI X.K ca W fi) (tG X.K tgt) (tT X.K ca W0 ft) (tE X.K ca W0 fe) (ownp.map (·.2)) σ H Q := by
  subst hown
  obtain ⟨ι, env, M, hs, hm, h⟩ := h
  refine ⟨ι, env, M, hs, hm, post_imp (post_bind h) fun wk M1 H1 ι1 e1 hm1 h1 J rw Dn nD => ?_⟩
  obtain ⟨e2, hm2, l2⟩ := hm1.new (o := .lst []) (m := .lst []) nD ⟨[], rfl, .nil⟩
  have hs2 := (hs.up e1).up e2
  have h2 := post_up (post_bind h1) e2
  have fin : ∀ {H' : Hp} {ι' : List Addr} {M' : Mem}, Ext (upd H1 Dn (.lst [])) (ι1 ++ [Dn]) H' ι' → RM X.K H' ι' M' → post X.K ca W σ H' ι' (.ok () M') (lcEnd X.K ca W σ M1.length Q) → Q (.ref Dn) H' := fun {H' ι' M'} e m p =>
    post_ok (post_ok p m) m _ (.obj (pre_get l2 e.pre))
  cases wk with
  | seq ds =>
    have wlk := walk_of rw
    refine ⟨fun i m H' => m = ds.length - i ∧ i ≤ ds.length ∧ ∃ ι' M', Ext (upd H1 Dn (.lst [])) (ι1 ++ [Dn]) H' ι' ∧ RM X.K H' ι' M' ∧ post X.K ca W σ H' ι' (lcSeq (lcTurn ft fe tgt (ownp.map (·.2)) env) M1.length (ds.drop i) M') (lcEnd X.K ca W σ M1.length Q), ⟨ds.length, rfl, Nat.zero_le _, ι1 ++ [Dn], M1 ++ [MO.lst []], Ext.refl _ _, hm2, h2⟩, ?_⟩
    rintro i m H' ⟨rfl, hi, ι', M', e', hm', p⟩
    have e1' := e2.trans e'
    by_cases hlt : i < ds.length
    · have hd : ds[i]? = some ds[i] := List.getElem?_eq_getElem hlt
      obtain ⟨go, yl⟩ := wlk.go i ds[i] H' ι' e1' hd
      rw [List.drop_eq_getElem_cons hlt] at p
      refine .inr ⟨go, fun H'' => i + 1 ≤ ds.length ∧ ∃ ι'' M'', Ext H' ι' H'' ι'' ∧ RM X.K H'' ι'' M'' ∧ post X.K ca W σ H'' ι'' (lcSeq (lcTurn ft fe tgt (ownp.map (·.2)) env) M1.length (ds.drop (i + 1)) M'') (lcEnd X.K ca W σ M1.length Q), fun H'' ⟨hl, ι'', M'', ee, mm, pp⟩ => ⟨ds.length - (i + 1), by omega, rfl, hl, ι'', M'', e'.trans ee, mm, pp⟩, fun x H2 hy => ?_⟩
      obtain ⟨ey, my, ry⟩ := yl x H2 hy
      have t := lc_turn (K := X.K) (rest := fun M' => lcSeq (lcTurn ft fe tgt (ownp.map (·.2)) env) M1.length (ds.drop (i + 1)) M') (C := lcEnd X.K ca W σ M1.length Q) (hs2.up (e'.trans ey)) (my _ hm') ry (pre_get l2 (e'.trans ey).pre) hsl (post_up p ey)
      obtain ⟨a1, a2, a3, a4, a5, a6, a7, a8⟩ := t
      refine ⟨a1, a2, a3, a4, a5, a6, a7, fun σ' r w => ?_⟩
      obtain ⟨b1, c1, c2, c3, c4, c5, c6⟩ := a8 σ' r w
      refine ⟨b1, c1, c2, c3, c4, c5, post_imp c6 fun b M3 H3 ι3 e3 hm3 h3 => ?_⟩
      cases b with
      | true =>
        obtain ⟨g1, g2, g3, g4, g5, g6⟩ := ifT h3
        refine iteT ⟨g1, g2, g3, g4, g5, post_imp g6 fun y M4 H4 ι4 e4 hm4 h4 v rv => ?_⟩
        obtain ⟨acc, q1, q2, ι'', M'', q3, q4, q5⟩ := h4 v rv
        exact ⟨acc, q1, q2, by omega, ι'', M'', ey.trans q3, q4, q5⟩
      | false =>
        obtain ⟨ι'', M'', q3, q4, q5⟩ := ifF h3
        exact iteF ⟨by omega, ι'', M'', ey.trans q3, q4, q5⟩
    · have hi' : i = ds.length := by omega
      subst hi'
      rw [List.drop_length] at p
      exact .inl ⟨wlk.stop H' ι' e1', fin e' hm' p⟩
  | live n =>
    cases rw with | live ha =>
    rename_i a
    refine ⟨fun i m H' => ∃ ι' M', Ext (upd H1 Dn (.lst [])) (ι1 ++ [Dn]) H' ι' ∧ RM X.K H' ι' M' ∧ post X.K ca W σ H' ι' (lcLive (lcTurn ft fe tgt (ownp.map (·.2)) env) M1.length n m i M') (lcEnd X.K ca W σ M1.length Q), ⟨lenAt M1 n, ι1 ++ [Dn], M1 ++ [MO.lst []], Ext.refl _ _, hm2, h2⟩, ?_⟩
    rintro i m H' ⟨ι', M', e', hm', p⟩
    have hga := pre_get ha (e2.trans e').pre
    cases m with
    | zero =>
      unfold lcLive at p
      split at p
      · rename_i xs hx
        split at p
        · rename_i hl
          obtain ⟨b, o, g1, g2, vs, rfl, g3⟩ := hm'.at_ n _ hx
          rw [hga] at g1
          cases g1
          exact .inl ⟨⟨vs, SqL.of g2, by rw [← g3.length]; exact hl⟩, fin e' hm' p⟩
        · exact p.elim
      · exact p.elim
    | succ m =>
      unfold lcLive at p
      split at p
      · rename_i xs hx
        split at p
        · rename_i d hd
          obtain ⟨b, o, g1, g2, vs, rfl, g3⟩ := hm'.at_ n _ hx
          rw [hga] at g1
          cases g1
          obtain ⟨v, hv, rv⟩ := g3.get hd
          refine .inr ⟨⟨vs, v, SqL.of g2, hv⟩, fun H'' => ∃ ι'' M'', Ext H' ι' H'' ι'' ∧ RM X.K H'' ι'' M'' ∧ post X.K ca W σ H'' ι'' (lcLive (lcTurn ft fe tgt (ownp.map (·.2)) env) M1.length n m (i + 1) M'') (lcEnd X.K ca W σ M1.length Q), fun H'' ⟨ι'', M'', ee, mm, pp⟩ => ⟨m, by omega, ι'', M'', e'.trans ee, mm, pp⟩, fun x H2 hy => ?_⟩
          obtain ⟨rfl, hy⟩ := hy
          have : v = x := Option.some.inj (hv.symm.trans (hy _ (SqL.of g2)))
          subst this
          exact lc_turn (K := X.K) (rest := fun M' => lcLive (lcTurn ft fe tgt (ownp.map (·.2)) env) M1.length n m (i + 1) M') (C := lcEnd X.K ca W σ M1.length Q) (hs2.up e') hm' rv (pre_get l2 e'.pre) hsl p
        · exact p.elim
      · exact p.elim
theorem de_lc {own : List Nat} {ownp : List (Str × Nat)} {tgt : Tg} {elt tg iter : Expr} {ifs : List Expr} {scope : Scope} {pos : Pos} (hown : ownp.map (·.2) = own) (hc : X.calm = true) (hN : X.N.Nodup) (hi : PI X tg iter (tI X.K ca W fi)) (ok : BlkOk X.N X.env.scope scope ownp)
    (hg : ∀ (s : Shared) (H : Hp) (C : Addr) (cl : List (Str × Addr)) (fp : List Addr), PG (X.blk s H scope (compEnvC scope cl C X.env) fp) tg (tG X.K tgt)) (ht : ∀ (s : Shared) (H : Hp) (C : Addr) (cl : List (Str × Addr)) (fp : List Addr), PTs (X.blk s H scope (compEnvC scope cl C X.env) fp) ifs (tT X.K ca W0 ft))
    (he : ∀ (s : Shared) (H : Hp) (C : Addr) (cl : List (Str × Addr)) (fp : List Addr), PE (X.blk s H scope (compEnvC scope cl C X.env) fp) elt (tE X.K ca W0 fe)) (hs : ∀ x, foldedSetIterable iter X.env x = pure x) (hsl : ∀ i ∈ slotsOf tgt, i ∈ own) :
    PE X (.ListComp elt [⟨tg, iter, ifs, 0⟩] scope pos) (tE X.K ca W (lcD fi ft fe tgt own)) :=
  (pe_lc hc hN hi ok hg ht he hs).weak fun σ H Q h => lc_weak hown hsl σ H Q h
end
end Py

set_option Elab.async false
set_option autoImplicit false
set_option linter.all false
set_option maxRecDepth 100000
set_option maxHeartbeats 8000000
/-! E11: an expression's text does what its IR says. -/
namespace Py
open PySem PySem.Spec PyProof.Rows L2
structure Md where
  p : Prog
  nm : Nm
  ca : Nat → Addr × List Str
  fa : Nat → Addr
  fd : Nat → FuncData
  ps : Nat → List Str
/-- what holds of an own error class at C -/
structure ClsOk (P : Program) (K : Fr) (mg : Str → Option Value) (C : Addr) (I : ClI) : Prop where
  g : mg I.name = some (.ref C)
  k : PySem.W.keepIn K (.ref C) = true
  b : PySem.W.subIn K (.ref C) (.type "BaseException") = some true
  t : PySem.W.typeIn K (.ref C) = some (.type "type")
  how : (I.fs = [] ∧ PySem.W.excIn K C PySem.HandSPX.veTail "ValueError.__new__" = true) ∨ ∃ n1 n2, I.fs = [n1, n2] ∧ (∃ fI cc cda q msg qual sc, PySem.EXI.Txt K P C fI cc cda q msg n1 n2 qual sc) ∧ XfC K C ∧ mg "super" = none
structure Good (m : Md) (X : Cx) (N : List Str) (sc : Scope) (k : Nat) (W : WX) : Prop where
  hN : X.N = N
  nd : N.Nodup
  hsc : X.env.scope = sc
  calm : X.calm = true
  room : Room k X.A
  fn : ∀ f F, m.p.fn f = some F → FnOk X.prog X.w X.K X.mg X.base (L2.CX X.prog X.w) k (m.fa f) (m.fd f) (m.ps f) (spD X.K m.ca F.np (run m.p k f)) ∧ X.mg (m.nm.fn f) = some (.ref (m.fa f)) ∧ PySem.W.keepIn X.K (.ref (m.fa f)) = true ∧ Binds X.K (m.fd f) (m.ps f) []
  hf : ∀ f, m.nm.hf f = true → ∃ F, m.p.fn f = some F
  gl : ∀ g d, m.p.gl g = some d → ∃ u v, X.mg (m.nm.gl g) = some u ∧ RelV v u ∧ ∀ H ι, RV X.K H ι d v
  bl : ∀ x ∈ m.nm.bs, X.mg x = none
  tk : Takes X W
  cl : ∀ c I, m.nm.cl c = some I → ClsOk X.prog X.K X.mg (m.ca c).1 I ∧ (m.ca c).2 = I.fs
  ex : ∀ c c' I I', m.nm.cl c = some I → m.nm.cl c' = some I' → PySem.W.exmOne X.K (.ref (m.ca c).1) (.ref (m.ca c').1) = some (subC c c')
theorem run_len (p : Prog) {f : Nat} {F : Fn} (hF : p.fn f = some F) : ∀ (k : Nat) (ds : List D) (M : Mem), ds.length ≠ F.np → run p k f ds M = .bad
  | 0, _, _, _ => rfl
  | k + 1, ds, M, h => by
    unfold run
    rw [hF]
    show runFn _ F ds M = .bad
    unfold runFn
    rw [if_neg h]
section
variable {m : Md} {X : Cx} {N : List Str} {sc : Scope} {k : Nat} {W : WX}
noncomputable abbrev Md.sig (m : Md) (k : Nat) : Sig := ⟨run m.p k, m.p.gl⟩
theorem Good.glx (G : Good m X N sc k W) {x : Str} (h : glB sc x = true) : Gl X x ∧ (x == ("__debug__" : Str)) = false := by
  obtain ⟨h1, h2⟩ := glB_of h
  refine ⟨?_, h2⟩
  show X.env.scope.names.lookup x = _
  rw [G.hsc]; exact h1
theorem Good.bn (G : Good m X N sc k W) {x : Str} (h : bnB m.nm sc x = true) : Gl X x ∧ X.mg x = none ∧ x ≠ "__name__" ∧ (x == ("__debug__" : Str)) = false := by
  unfold bnB at h
  simp only [Bool.and_eq_true, decide_eq_true_eq] at h
  obtain ⟨a, b⟩ := G.glx h.1.1
  exact ⟨a, G.bl x h.1.2, h.2, b⟩
theorem Good.blk (G : Good m X N sc k W) (scope : Scope) (s : Shared) (H : Hp) (C : Addr) (cl : List (Str × Addr)) (fp : List Addr) : Good m (X.blk s H scope (compEnvC scope cl C X.env) fp) N (relS scope sc) k W0 :=
  ⟨G.hN, G.nd, by rw [← G.hsc]; rfl, G.calm, G.room, G.fn, G.hf, G.gl, G.bl, takes0, G.cl, G.ex⟩
theorem _root_.L2.PTs.weak {X : Cx} {ifs : List Expr} {t t' : TT} (h : PTs X ifs t) (w : ∀ σ H Q, t' σ H Q → t σ H Q) : PTs X ifs t' := ⟨fun pins s σ H Q I q => h.run pins s σ H Q I (w σ H Q q)⟩
/-- a test, and where it is an and, an or: whatever its whole -/
structure PTW (X : Cx) (ex : Expr) (t : TT) : Prop where
  pt : PT X ex t
  pw : (∃ o es p, ex = .BoolOp o es p) → PW X ex t
theorem ckE_pos (nm : Nm) (N : List Str) : ∀ (e : E) (sc : Scope) (o : BoolOp) (es : List Expr) (p q : Pos), ckE nm N e sc (.BoolOp o es p) = ckE nm N e sc (.BoolOp o es q)
  | .tidy e, sc, o, es, p, q => by unfold ckE; exact ckE_pos nm N e sc o es p q
  | .var _, sc, o, es, p, q | .int _, sc, o, es, p, q | .str _, sc, o, es, p, q | .bl _, sc, o, es, p, q | .non, sc, o, es, p, q | .glob _, sc, o, es, p, q
  | .tup _, sc, o, es, p, q | .lst _, sc, o, es, p, q | .dict0, sc, o, es, p, q | .stuck, sc, o, es, p, q | .neg _, sc, o, es, p, q | .bin _ _ _, sc, o, es, p, q
  | .cmp _ _ _, sc, o, es, p, q | .chain _ _ _ _, sc, o, es, p, q | .notE _, sc, o, es, p, q | .andE _ _, sc, o, es, p, q | .orE _ _, sc, o, es, p, q | .ifE _ _ _, sc, o, es, p, q
  | .ix _ _, sc, o, es, p, q | .slice _ _ _, sc, o, es, p, q | .call _ _, sc, o, es, p, q | .blt _ _, sc, o, es, p, q | .meth _ _ _, sc, o, es, p, q | .lc _ _ _ _ _, sc, o, es, p, q | .rev _, sc, o, es, p, q => by
    unfold ckE; first | rfl | (cases o <;> rfl)
theorem ckT_pos (nm : Nm) (N : List Str) (e : T) (sc : Scope) (o : BoolOp) (es : List Expr) (p q : Pos) : ckT nm N e sc (.BoolOp o es p) = ckT nm N e sc (.BoolOp o es q) := by
  cases e <;> (unfold ckT; first | rfl | (cases o <;> rfl) | (rename_i e; rw [ckE_pos nm N e sc o es p q]; rfl))
theorem biV (b : Bi) (h : isName b = none) (hc : X.calm = true) : (∃ id, bootBuiltins (biName b) = some (.builtin id) ∧ CallR X (.builtin id) (rBi X.K b)) ∨ ∃ id, bootBuiltins (biName b) = some (.type id) ∧ CallR X (.type id) (rBi X.K b) := by
  cases b <;> first
    | (cases h; done)
    | exact .inl ⟨_, by decide +kernel, bi_len⟩
    | exact .inr ⟨_, by decide +kernel, bi_int⟩
    | exact .inl ⟨_, by decide +kernel, bi_abs⟩
    | exact .inl ⟨_, by decide +kernel, bi_max2 hc⟩
    | exact .inl ⟨_, by decide +kernel, bi_min2 hc⟩
    | exact .inl ⟨_, by decide +kernel, bi_ord⟩
    | exact .inr ⟨_, by decide +kernel, bi_tuple⟩
    | exact .inr ⟨_, by decide +kernel, bi_list⟩
    | exact .inl ⟨_, by decide +kernel, bi_sorted⟩
    | exact .inl ⟨_, by decide +kernel, bi_sum hc⟩
    | exact .inl ⟨_, by decide +kernel, bi_max1 hc⟩

theorem allp {es : List Expr} {e : Expr} (h : (e :: es).all plainX = true) : plainX e = true ∧ es.all plainX = true := by rw [List.all_cons, Bool.and_eq_true] at h; exact h
theorem mem_all {l own : List Nat} (h : l.all (own.contains ·) = true) : ∀ i ∈ l, i ∈ own := fun i hi => by
  have := List.all_eq_true.mp h i hi
  simpa using this
theorem okVar (G : Good m X N sc k W) (i : Nat) (ex : Expr) (h : (match asName ex with | some x => decide (N[i]? = some x) && visB sc x | none => false) = true) : PE X ex (tE X.K m.ca W fun env M => .ofV ((env[i]?).bind id) M) := by
  split at h
  · rename_i x hx
    obtain ⟨p, rfl⟩ := asName_of hx
    rw [Bool.and_eq_true] at h
    obtain ⟨a, b, c⟩ := visB_of h.2
    exact de_var (by rw [G.hN]; exact of_decide_eq_true h.1) (by rw [G.hsc]; exact a) b c
  · cases h

mutual
theorem okE : ∀ (e : E) {X : Cx} {sc : Scope} {W : WX} (G : Good m X N sc k W) (ex : Expr), ckE m.nm N e sc ex = true → PE X ex (tE X.K m.ca W (evE (m.sig k) e))
  | .var i, X, sc, W, G, ex, h => okVar G i ex (by unfold ckE at h; exact h)
  | .int i, X, sc, W, G, ex, h => by
    unfold ckE at h
    obtain ⟨j, p, rfl⟩ := asInt_of (of_decide_eq_true h)
    exact de_const pe_int fun _ _ => .int i
  | .str s, X, sc, W, G, ex, h => by
    unfold ckE at h
    split at h
    · rename_i x hx
      obtain ⟨j, p, rfl⟩ := asStr_of hx
      have e : x.cps.toList = s := of_decide_eq_true h
      subst e
      exact de_const pe_str fun _ _ => by
        have := RV.str (K := X.K) (H := by assumption) (ι := by assumption) x.cps.toList
        simpa [sv] using this
    · cases h
  | .bl b, X, sc, W, G, ex, h => by
    unfold ckE at h
    obtain ⟨j, p, rfl⟩ := asBool_of (of_decide_eq_true h)
    exact de_const pe_bl fun _ _ => .bl b
  | .non, X, sc, W, G, ex, h => by
    unfold ckE at h
    obtain ⟨j, p, rfl⟩ := isNone_of h
    exact de_const pe_non fun _ _ => .non
  | .glob g, X, sc, W, G, ex, h => by
    unfold ckE at h
    split at h
    · rename_i x hx
      obtain ⟨p, rfl⟩ := asName_of hx
      rw [Bool.and_eq_true] at h
      have e : x = m.nm.gl g := of_decide_eq_true h.1
      subst e
      obtain ⟨a, b⟩ := G.glx h.2
      cases z : m.p.gl g with
      | none =>
        refine ⟨fun pins s σ H Q I ⟨ι, env, M, hs, hm, q⟩ => ?_⟩
        have q : post X.K m.ca W σ H ι (Res.ofV (m.p.gl g) M) _ := q
        rw [z] at q
        exact q.elim
      | some d =>
        obtain ⟨u, v, h1, h2, h3⟩ := G.gl g d z
        refine (pe_glob (pos := p) a h1 h2 b).weak fun σ H Q ⟨ι, env, M, hs, hm, q⟩ => ?_
        have q : post X.K m.ca W σ H ι (Res.ofV (m.p.gl g) M) _ := q
        rw [z] at q
        exact post_ok q hm v (h3 H ι)
    · cases h
  | .tup es, X, sc, W, G, ex, h => by
    unfold ckE at h
    split at h
    · rename_i xs hx
      obtain ⟨j, p, rfl⟩ := asTup_of hx
      rw [Bool.and_eq_true] at h
      exact de_tup (okEs es G xs h.1 h.2)
    · cases h
  | .lst es, X, sc, W, G, ex, h => by
    unfold ckE at h
    split at h
    · rename_i xs hx
      obtain ⟨p, rfl⟩ := asLst_of hx
      rw [Bool.and_eq_true] at h
      exact de_lst (okEs es G xs h.1 h.2)
    · cases h
  | .tidy e, X, sc, W, G, ex, h => de_tidy (okE e G ex h)
  | .rev a, X, sc, W, G, ex, h => by
    unfold ckE at h
    split at h
    · rename_i x hx
      obtain ⟨k, p1, p2, p3, p4, rfl⟩ := asRev_of hx
      exact de_rev (okE a G x h)
    · cases h
  | .stuck, X, sc, W, G, ex, h => ⟨fun pins s σ H Q I ⟨ι, env, M, hs, hm, q⟩ => q.elim⟩
  | .dict0, X, sc, W, G, ex, h => by
    unfold ckE at h
    obtain ⟨p, rfl⟩ := isDict0_of h
    exact de_dict0
  | .neg a, X, sc, W, G, ex, h => by
    unfold ckE at h
    split at h
    · rename_i x hx
      obtain ⟨p, rfl⟩ := asNeg_of hx
      exact de_neg (okE a G x h)
    · cases h
  | .bin o a b, X, sc, W, G, ex, h => by
    unfold ckE at h
    split at h
    · rename_i x op y hx
      obtain ⟨p, rfl⟩ := asBin_of hx
      simp only [Bool.and_eq_true, decide_eq_true_eq] at h
      obtain ⟨⟨rfl, h1⟩, h2⟩ := h
      exact de_bin o (okE a G x h1) (okE b G y h2)
    · cases h
  | .cmp o a b, X, sc, W, G, ex, h => by
    unfold ckE at h
    split at h
    · rename_i x op y hx
      obtain ⟨p, rfl⟩ := asCmp_of hx
      simp only [Bool.and_eq_true, decide_eq_true_eq] at h
      obtain ⟨⟨⟨rfl, h1⟩, h2⟩, h3⟩ := h
      exact de_cmp G.room o (okE a G x h1) (okE b G y h2) h3
    · cases h
  | .chain o a b r, X, sc, W, G, ex, h => by
    unfold ckE at h
    split at h
    · rename_i x op ops y ys hx
      obtain ⟨p, rfl⟩ := asCmp_of hx
      simp only [Bool.and_eq_true, decide_eq_true_eq] at h
      obtain ⟨⟨⟨⟨⟨rfl, h1⟩, h2⟩, h3⟩, h4⟩, h5⟩ := h
      obtain ⟨op', ops', z, zs, rfl, rfl⟩ := ckCh_ne r sc ops ys h3
      exact de_chain G.room o (okE a G x h1) (okE b G y h2) (okCh r G _ _ h3) h4 h5
    · cases h
  | .notE a, X, sc, W, G, ex, h => by
    unfold ckE at h
    split at h
    · rename_i x hx
      obtain ⟨p, rfl⟩ := asNot_of hx
      exact de_not (okE a G x h)
    · cases h
  | .andE a b, X, sc, W, G, ex, h => by
    unfold ckE at h
    split at h
    · rename_i x y ys hx
      obtain ⟨p, rfl⟩ := asAnd_of hx
      rw [Bool.and_eq_true] at h
      refine de_and (okE a G x h.1) ?_
      cases ys with
      | nil => exact pe_one (okE b G y h.2)
      | cons z zs => exact okE b G _ ((ckE_pos m.nm N b sc .And (y :: z :: zs) p ⟨0, 0, 0, 0⟩).trans h.2)
    · cases h
  | .orE a b, X, sc, W, G, ex, h => by
    unfold ckE at h
    split at h
    · rename_i x y ys hx
      obtain ⟨p, rfl⟩ := asOr_of hx
      rw [Bool.and_eq_true] at h
      refine de_or (okE a G x h.1) ?_
      cases ys with
      | nil => exact pe_one (okE b G y h.2)
      | cons z zs => exact okE b G _ ((ckE_pos m.nm N b sc .Or (y :: z :: zs) p ⟨0, 0, 0, 0⟩).trans h.2)
    · cases h
  | .ifE c a b, X, sc, W, G, ex, h => by
    unfold ckE at h
    split at h
    · rename_i x y z hx
      obtain ⟨p, rfl⟩ := asIf_of hx
      simp only [Bool.and_eq_true] at h
      exact de_if (okT c G x h.1.1).pt (okE a G y h.1.2) (okE b G z h.2)
    · cases h
  | .ix a b, X, sc, W, G, ex, h => by
    unfold ckE at h
    split at h
    · rename_i x y hx
      obtain ⟨p, rfl⟩ := asSub_of hx
      simp only [Bool.and_eq_true] at h
      exact de_ix G.room (okE a G x h.1.1) (okE b G y h.1.2) h.2
    · cases h
  | .slice a lo hi, X, sc, W, G, ex, h => by
    unfold ckE at h
    split at h
    · rename_i x y hx
      obtain ⟨p, rfl⟩ := asSub_of hx
      split at h
      · rename_i l u hy
        obtain ⟨p2, rfl⟩ := asSlice_of hy
        simp only [Bool.and_eq_true] at h
        exact de_slice (okE a G x h.1.1) (okO lo G l h.1.2) (okO hi G u h.2)
      · cases h
    · cases h
  | .call f es, X, sc, W, G, ex, h => by
    unfold ckE at h
    split at h
    · rename_i x xs hx
      obtain ⟨q, p, rfl⟩ := asCall_of hx
      simp only [Bool.and_eq_true, decide_eq_true_eq] at h
      obtain ⟨⟨⟨⟨⟨h0, rfl⟩, h1⟩, h2⟩, h3⟩, h4⟩ := h
      obtain ⟨F, hF⟩ := G.hf f h0
      obtain ⟨f1, f2, f3, f4⟩ := G.fn f F hF
      obtain ⟨g1, g2⟩ := G.glx h1
      cases xs with
      | nil => cases h2
      | cons y ys =>
        obtain ⟨p1, p2⟩ := allp h4
        exact de_call f1 G.room g1 f2 f3 f4 G.tk (okEs es G _ h3 h4) g2 p1 p2 fun ds M hn => run_len m.p hF k ds M hn
    · cases h
  | .blt b es, X, sc, W, G, ex, h => by
    unfold ckE at h
    split at h
    · rename_i x xs hx
      obtain ⟨q, p, rfl⟩ := asCall_of hx
      simp only [Bool.and_eq_true, decide_eq_true_eq] at h
      obtain ⟨⟨⟨rfl, h1⟩, h2⟩, h3⟩ := h
      obtain ⟨g1, g2, g3, g4⟩ := G.bn h1
      split at h3
      · rename_i T hT
        split at h3
        · rename_i y c
          simp only [Bool.and_eq_true] at h3
          obtain ⟨⟨h4, h5⟩, h6⟩ := h3
          split at h6
          · rename_i n hn
            obtain ⟨p2, rfl⟩ := asName_of hn
            simp only [Bool.and_eq_true, decide_eq_true_eq] at h6
            obtain ⟨rfl, h7⟩ := h6
            obtain ⟨n1, n2, n3, n4⟩ := G.bn h7
            cases es with
            | nil => cases h4
            | cons e0 r0 =>
              have h4 : (ckE m.nm N e0 sc y && ckEs m.nm N r0 sc []) = true := h4
              rw [Bool.and_eq_true] at h4
              cases r0 with
              | cons => cases h4.2
              | nil =>
                have hv2 : bootBuiltins (PySem.Str.ofString T) = some (.type T) := by
                  cases b <;> simp only [isName] at hT <;> first | (cases hT; done) | (cases hT; decide +kernel)
                have hv : bootBuiltins (biName b) = some (.builtin "isinstance") := by
                  cases b <;> simp only [isName] at hT <;> first | (cases hT; done) | (decide +kernel)
                have he := okE e0 G y h4.1
                exact de_isi hT g1 g2 hv (da_cons he da_nil h5) g3 g4 n1 n2 hv2 n3 n4 h5 he rfl
          · cases h6
        · cases h3
      · rename_i hT
        cases xs with
        | nil => cases h2
        | cons y ys =>
          rw [Bool.and_eq_true] at h3
          obtain ⟨p1, p2⟩ := allp h3.2
          rcases biV (X := X) b hT G.calm with ⟨id, v1, v2⟩ | ⟨id, v1, v2⟩
          · exact de_biB v2 g1 g2 v1 (okEs es G _ h3.1 h3.2) g3 g4 p1 p2
          · exact de_biT v2 g1 g2 v1 (okEs es G _ h3.1 h3.2) g3 g4 p1 p2
    · cases h
  | .meth mt o es, X, sc, W, G, ex, h => by
    unfold ckE at h
    split at h
    · rename_i y x xs hx
      obtain ⟨ap, p, rfl, hl⟩ := asMeth_of hx
      simp only [Bool.and_eq_true, decide_eq_true_eq] at h
      obtain ⟨⟨⟨⟨⟨rfl, h1⟩, h2⟩, h3⟩, h4⟩, h5⟩ := h
      have ho := okE o G y h1
      cases xs with
      | nil =>
        cases es with
        | cons => cases h3
        | nil =>
          cases mt with
          | pop => exact de_meth0 (m := .pop) rfl PySem.F.plainAttrs_list PySem.F.slot_list_pop PySem.F.type_list_pop me_pop ho h2 hl
          | append => exact de_meth0 (m := .append) rfl PySem.F.plainAttrs_list PySem.F.slot_list_append PySem.F.type_list_append me_append ho h2 hl
          | extend => exact de_meth0 (m := .extend) rfl PySem.F.plainAttrs_list PySem.F.slot_list_extend PySem.F.type_list_extend me_extend ho h2 hl
          | join => exact de_meth0 (m := .join) rfl PySem.F.plainAttrs_str PySem.F.slot_str_join PySem.F.type_str_join me_join ho h2 hl
      | cons z zs =>
        have ha := okEs es G _ h3 h4
        cases mt with
        | append => exact de_meth (m := .append) rfl PySem.F.plainAttrs_list PySem.F.slot_list_append PySem.F.type_list_append me_append ho ha h2 h4 h5 hl
        | extend => exact de_meth (m := .extend) rfl PySem.F.plainAttrs_list PySem.F.slot_list_extend PySem.F.type_list_extend me_extend ho ha h2 h4 h5 hl
        | pop => exact de_meth (m := .pop) rfl PySem.F.plainAttrs_list PySem.F.slot_list_pop PySem.F.type_list_pop me_pop ho ha h2 h4 h5 hl
        | join => exact de_meth (m := .join) rfl PySem.F.plainAttrs_str PySem.F.slot_str_join PySem.F.type_str_join me_join ho ha h2 h4 h5 hl
    · cases h
  | .lc own tg it c e, X, sc, W, G, ex, h => by
    unfold ckE at h
    split at h
    · rename_i el t i ifs scope hx
      obtain ⟨p, rfl⟩ := asLc_of hx
      simp only [Bool.and_eq_true, decide_eq_true_eq] at h
      obtain ⟨⟨⟨⟨⟨⟨⟨⟨h1, h2⟩, h3⟩, h4⟩, h5⟩, h6⟩, h7⟩, h8⟩, h9⟩ := h
      have hi := okIt it (tg := t) G i h2
      refine de_lc h9 G.calm (G.hN ▸ G.nd) hi (blkOk_by (by rw [G.hN, G.hsc]; exact h1)) (fun s H C cl fp => ?_) (fun s H C cl fp => okOT c (G.blk scope s H C cl fp) ifs h7) (fun s H C cl fp => okE e (G.blk scope s H C cl fp) el h8) (set_of h3 X.env) (mem_all h5)
      have G' := G.blk scope s H C cl fp
      refine dg_tg G'.hN G'.nd G'.hsc G'.calm tg t h4 fun j hj x hx => ?_
      have h10 := List.all_eq_true.mp h6 j hj
      rw [hx] at h10
      have h10 : ((scope.names.lookup x == some .cell) || isLocal (relS scope sc) x) = true := h10
      rw [Bool.or_eq_true] at h10
      rcases h10 with z | z
      · exact .inl z
      · refine .inr ?_
        rw [G'.hsc]
        exact isLocal_of z
    · cases h
theorem ckCh_ne : ∀ (r : Ch) (sc : Scope) (ops : List CmpOp) (es : List Expr), ckCh m.nm N r sc ops es = true → ∃ op ops' e es', ops = op :: ops' ∧ es = e :: es'
  | .last o a, sc, ops, es, h => by
    unfold ckCh at h
    split at h
    · exact ⟨_, _, _, _, rfl, rfl⟩
    · cases h
  | .more o a r, sc, ops, es, h => by
    unfold ckCh at h
    split at h
    · exact ⟨_, _, _, _, rfl, rfl⟩
    · cases h
theorem okCh : ∀ (r : Ch) {X : Cx} {sc : Scope} {W : WX} (G : Good m X N sc k W) (ops : List CmpOp) (es : List Expr), ckCh m.nm N r sc ops es = true → PCh X ops es (tV X.K m.ca W (evCh (m.sig k) r))
  | .last o a, X, sc, W, G, ops, es, h => by
    unfold ckCh at h
    split at h
    · rename_i op x
      simp only [Bool.and_eq_true, decide_eq_true_eq] at h
      obtain ⟨rfl, h1⟩ := h
      exact dch_last G.room o (okE a G x h1)
    · cases h
  | .more o a r, X, sc, W, G, ops, es, h => by
    unfold ckCh at h
    split at h
    · rename_i op op' ops x x' es
      simp only [Bool.and_eq_true, decide_eq_true_eq] at h
      obtain ⟨⟨rfl, h1⟩, h2⟩ := h
      exact dch_more G.room o (okE a G x h1) (okCh r G _ _ h2)
    · cases h
theorem okEs : ∀ (es : Es) {X : Cx} {sc : Scope} {W : WX} (G : Good m X N sc k W) (xs : List Expr), ckEs m.nm N es sc xs = true → xs.all plainX = true → PA X xs (tA X.K m.ca W (evEs (m.sig k) es))
  | .nil, X, sc, W, G, xs, h, hp => by
    cases xs with
    | nil => exact da_nil
    | cons => cases h
  | .cons e es, X, sc, W, G, xs, h, hp => by
    cases xs with
    | nil => cases h
    | cons x xs =>
      have h : (ckE m.nm N e sc x && ckEs m.nm N es sc xs) = true := h
      rw [Bool.and_eq_true] at h
      obtain ⟨p1, p2⟩ := allp hp
      exact da_cons (okE e G x h.1) (okEs es G xs h.2 p2) p1
theorem okO : ∀ (o : OE) {X : Cx} {sc : Scope} {W : WX} (G : Good m X N sc k W) (x : Option Expr), ckO m.nm N o sc x = true → PO X x (tO X.K m.ca W (evO (m.sig k) o))
  | .none, X, sc, W, G, x, h => by
    cases x with
    | none => exact do_none
    | some => cases h
  | .some e, X, sc, W, G, x, h => by
    cases x with
    | none => cases h
    | some y => exact do_some (okE e G y h)
theorem okT : ∀ (t : T) {X : Cx} {sc : Scope} {W : WX} (G : Good m X N sc k W) (ex : Expr), ckT m.nm N t sc ex = true → PTW X ex (tT X.K m.ca W (evT (m.sig k) t))
  | .tr e, X, sc, W, G, ex, h => by
    unfold ckT at h
    rw [Bool.and_eq_true] at h
    exact ⟨dt_tr (okE e G ex h.2) h.1, fun ⟨o, es, p, z⟩ => by subst z; cases h.1⟩
  | .cmp o a b, X, sc, W, G, ex, h => by
    unfold ckT at h
    split at h
    · rename_i x op y hx
      obtain ⟨p, rfl⟩ := asCmp_of hx
      simp only [Bool.and_eq_true, decide_eq_true_eq] at h
      obtain ⟨⟨⟨rfl, h1⟩, h2⟩, h3⟩ := h
      exact ⟨dt_cmp G.room o (okE a G x h1) (okE b G y h2) h3, fun ⟨o, es, p, z⟩ => by cases z⟩
    · cases h
  | .chain o a b r, X, sc, W, G, ex, h => by
    unfold ckT at h
    split at h
    · rename_i x op ops y ys hx
      obtain ⟨p, rfl⟩ := asCmp_of hx
      simp only [Bool.and_eq_true, decide_eq_true_eq] at h
      obtain ⟨⟨⟨⟨⟨rfl, h1⟩, h2⟩, h3⟩, h4⟩, h5⟩ := h
      obtain ⟨op', ops', z, zs, rfl, rfl⟩ := ckCh_ne r sc ops ys h3
      exact ⟨dt_chain G.room o (okE a G x h1) (okE b G y h2) (okCh r G _ _ h3) h4 h5, fun ⟨o, es, p, z⟩ => by cases z⟩
    · cases h
  | .and a b, X, sc, W, G, ex, h => by
    unfold ckT at h
    split at h
    · rename_i x y ys hx
      obtain ⟨p, rfl⟩ := asAnd_of hx
      rw [Bool.and_eq_true] at h
      have w : PW X (.BoolOp .And (x :: y :: ys) p) (tT X.K m.ca W (evT (m.sig k) (.and a b))) := by
        refine dw_and (okT a G x h.1).pt ?_
        cases ys with
        | nil => exact pw_and1 (okT b G y h.2).pt
        | cons z zs => exact (okT b G _ ((ckT_pos m.nm N b sc .And (y :: z :: zs) p ⟨0, 0, 0, 0⟩).trans h.2)).pw ⟨_, _, _, rfl⟩
      exact ⟨w.pt, fun _ => w⟩
    · cases h
  | .or a b, X, sc, W, G, ex, h => by
    unfold ckT at h
    split at h
    · rename_i x y ys hx
      obtain ⟨p, rfl⟩ := asOr_of hx
      rw [Bool.and_eq_true] at h
      have w : PW X (.BoolOp .Or (x :: y :: ys) p) (tT X.K m.ca W (evT (m.sig k) (.or a b))) := by
        refine dw_or (okT a G x h.1).pt ?_
        cases ys with
        | nil => exact pw_or1 (okT b G y h.2).pt
        | cons z zs => exact (okT b G _ ((ckT_pos m.nm N b sc .Or (y :: z :: zs) p ⟨0, 0, 0, 0⟩).trans h.2)).pw ⟨_, _, _, rfl⟩
      exact ⟨w.pt, fun _ => w⟩
    · cases h
  | .not a, X, sc, W, G, ex, h => by
    unfold ckT at h
    split at h
    · rename_i x hx
      obtain ⟨p, rfl⟩ := asNot_of hx
      exact ⟨dt_not (okT a G x h).pt, fun ⟨o, es, p, z⟩ => by cases z⟩
    · cases h
theorem okOT : ∀ (t : OT) {X : Cx} {sc : Scope} {W : WX} (G : Good m X N sc k W) (xs : List Expr), ckOT m.nm N t sc xs = true → PTs X xs (tT X.K m.ca W (evOT (m.sig k) t))
  | .none, X, sc, W, G, xs, h => by
    cases xs with
    | nil => exact pts_nil.weak fun σ H Q ⟨ι, env, M, hs, hm, q⟩ => post_ok q hm
    | cons => cases h
  | .some c, X, sc, W, G, xs, h => by
    unfold ckOT at h
    split at h
    · exact pts_one (okT c G _ h).pt
    · cases h
theorem okIt : ∀ (it : Wi) {X : Cx} {sc : Scope} {W : WX} {tg : Expr} (G : Good m X N sc k W) (ex : Expr), ckIt m.nm N it sc ex = true → PI X tg ex (tI X.K m.ca W (evIt (m.sig k) it))
  | .seq e, X, sc, W, tg, G, ex, h => di_seq (okE e G ex h)
  | .keys i, X, sc, W, tg, G, ex, h => di_keys (okVar G i ex (by unfold ckIt at h; exact h))
  | .range1 a, X, sc, W, tg, G, ex, h => by
    unfold ckIt at h
    split at h
    · rename_i x y hx
      obtain ⟨q, p, rfl⟩ := asCall_of hx
      simp only [Bool.and_eq_true, decide_eq_true_eq] at h
      obtain ⟨⟨⟨rfl, h1⟩, h2⟩, h3⟩ := h
      obtain ⟨g1, g2, g3, g4⟩ := G.bn h1
      exact di_range1 g1 g2 (okE a G y h2) h3
    · cases h
  | .range2 a b, X, sc, W, tg, G, ex, h => by
    unfold ckIt at h
    split at h
    · rename_i x y z hx
      obtain ⟨q, p, rfl⟩ := asCall_of hx
      simp only [Bool.and_eq_true, decide_eq_true_eq] at h
      obtain ⟨⟨⟨⟨⟨rfl, h1⟩, h2⟩, h3⟩, h4⟩, h5⟩ := h
      obtain ⟨g1, g2, g3, g4⟩ := G.bn h1
      exact di_range2 g1 g2 (okE a G y h2) (okE b G z h3) h4 h5
    · cases h
end
end
end Py

set_option Elab.async false
set_option autoImplicit false
set_option linter.all false
set_option maxRecDepth 100000
set_option maxHeartbeats 8000000
/-! E12: statements. -/
namespace Py
open PySem PySem.Spec PyProof.Rows L2

def postF (K : Fr) (D : Ends) (H' : Hp) (ι' : List Addr) (env' : Py.Env) : Fl → Prop
  | .next => ∀ σ', RS K H' ι' σ' env' → D.nx σ' H'
  | .brk => ∀ σ', RS K H' ι' σ' env' → D.bk σ' H'
  | .cont => ∀ σ', RS K H' ι' σ' env' → D.ct σ' H'
  | .ret d => ∀ v, RV K H' ι' d v → D.rt v H'
def postS (K : Fr) (ca : Nat → Addr × List Str) (W : WX) (D : Ends) (H : Hp) (ι : List Addr) (r : SR) : Prop := match r with
  | .ok f env' M' => ∀ H' ι', Ext H ι H' ι' → RM K H' ι' M' → postF K D H' ι' env' f
  | .exc x env' M' => ∀ H' ι' σ' c d, Ext H ι H' ι' → RM K H' ι' M' → RX K ca H' ι' x c d → RS K H' ι' σ' env' → W c d σ' H'
  | .bad => False
def tS (K : Fr) (ca : Nat → Addr × List Str) (W : WX) (f : Py.Env → Mem → SR) : TS := fun D σ H => ∃ ι env M, RS K H ι σ env ∧ RM K H ι M ∧ postS K ca W D H ι (f env M)
section
variable {K : Fr} {ca : Nat → Addr × List Str} {W : WX} {D D' : Ends} {H H1 : Hp} {ι ι1 : List Addr} {r : SR} {σ : L2.St} {env : Py.Env} {M : Mem}
theorem postS_up (h : postS K ca W D H ι r) (e : Ext H ι H1 ι1) : postS K ca W D H1 ι1 r := by
  cases r with
  | ok f env' M' => exact fun H' ι' e' hm => h H' ι' (e.trans e') hm
  | exc x env' M' => exact fun H' ι' σ' c d e' hm => h H' ι' σ' c d (e.trans e') hm
  | bad => exact h
theorem postS_st {α : Type} {a : Res α} {k : α → Mem → SR} (hs : RS K H ι σ env) (h : postS K ca W D H ι (Res.st a env k)) : post K ca W σ H ι a fun x M' H' ι' => postS K ca W D H' ι' (k x M') := by
  cases a with
  | ok x M' => exact fun H' ι' e' hm => postS_up (show postS K ca W D H ι (k x M') from h) e'
  | exc x M' => exact fun H' ι' c d e' hm rx => h H' ι' σ c d e' hm rx (hs.up e')
  | bad => exact h
theorem postS_ok {f : Fl} (h : postS K ca W D H ι (.ok f env M)) (hm : RM K H ι M) : postF K D H ι env f := h H ι (Ext.refl H ι) hm
end
section
variable {X : Cx} {st : Stmt} {sts : List Stmt}
theorem _root_.L2.PS.weak {t t' : TS} (h : PS X st t) (w : ∀ D σ H, t' D σ H → t D σ H) : PS X st t' := ⟨fun pins s σ H D I q => h.run pins s σ H D I (w D σ H q)⟩
theorem _root_.L2.PSs.weak {t t' : TS} (h : PSs X sts t) (w : ∀ D σ H, t' D σ H → t D σ H) : PSs X sts t' := ⟨fun pins s σ H D I q => h.run pins s σ H D I (w D σ H q)⟩
end

theorem postS_tidy {K : Fr} {ca : Nat → Addr × List Str} {W : WX} {D : Ends} {H : Hp} {ι : List Addr} {r : SR} {M : Mem} (hm : RM K H ι M) (h : postS K ca W D H ι (tidyS M r)) : postS K ca W D H ι r := by
  cases r with
  | bad => exact h
  | exc x env M' =>
    intro H' ι' σ' c d e hm' rx hs
    have h : postS K ca W D H ι (.exc x env (tidyM M (bels M.length (x.fs) && belE M.length env) M')) := h
    by_cases hc : (bels M.length (x.fs) && belE M.length env) = true ∧ TidyOk M M'
    · have e1 : tidyM M (bels M.length (x.fs) && belE M.length env) M' = M'.take M.length := if_pos hc
      rw [e1] at h
      obtain ⟨m1, x1⟩ := hm.tidy hm' e hc.2
      have hb := hc.1
      rw [Bool.and_eq_true] at hb
      exact h H' _ σ' c d x1 m1 (rx.sw take_sw hb.1) (hs.sw take_sw hb.2)
    · have e1 : tidyM M (bels M.length (x.fs) && belE M.length env) M' = M' := if_neg hc
      rw [e1] at h
      exact h H' ι' σ' c d e hm' rx hs
  | ok f env M' =>
    intro H' ι' e hm'
    have h : postS K ca W D H ι (.ok f env (tidyM M (belF M.length f && belE M.length env) M')) := h
    by_cases hc : (belF M.length f && belE M.length env) = true ∧ TidyOk M M'
    · have e1 : tidyM M (belF M.length f && belE M.length env) M' = M'.take M.length := if_pos hc
      rw [e1] at h
      obtain ⟨m1, x1⟩ := hm.tidy hm' e hc.2
      have hb := hc.1
      rw [Bool.and_eq_true] at hb
      have q := h H' _ x1 m1
      cases f with
      | next => exact fun σ' hs => q σ' (hs.sw take_sw hb.2)
      | brk => exact fun σ' hs => q σ' (hs.sw take_sw hb.2)
      | cont => exact fun σ' hs => q σ' (hs.sw take_sw hb.2)
      | ret d => exact fun v rv => q v (RV.sw take_sw _ _ rv hb.1)
    · have e1 : tidyM M (belF M.length f && belE M.length env) M' = M' := if_neg hc
      rw [e1] at h
      exact h H' ι' e hm'
theorem ds_tidy {X : Cx} {st : Stmt} {ca : Nat → Addr × List Str} {W : WX} {ga : Py.Env → Mem → SR} (h : PS X st (tS X.K ca W ga)) : PS X st (tS X.K ca W fun env M => tidyS M (ga env M)) :=
  h.weak fun D σ H ⟨ι, env, M, hs, hm, q⟩ => ⟨ι, env, M, hs, hm, postS_tidy hm q⟩

theorem RS.mono {K : Fr} {H H' : Hp} {ι ι' : List Addr} {σ : L2.St} {env : Py.Env} (h : RS K H ι σ env) (e : LeV H H') (p : ι <+: ι') : RS K H' ι' σ env :=
  ⟨h.len, fun i d q => let ⟨v, a, b⟩ := h.at_ i d q; ⟨v, a, RV.mono e p _ _ b⟩⟩
theorem ds_lock {X : Cx} {st : Stmt} {ca : Nat → Addr × List Str} {W : WX} {i : Nat} {ga : Py.Env → Mem → SR} (h : PS X st (tS X.K ca W ga)) : PS X st (tS X.K ca W fun env M => match lockAt ((env[i]?).bind id) M with
    | some (n, M1) => unlockAt n (ga env M1)
    | none => .bad) := by
  refine (ps_lock h).weak fun D σ H ⟨ι, env, M, hs, hm, h⟩ => ?_
  dsimp only at h
  split at h
  · rename_i n M1 hl
    unfold lockAt at hl
    split at hl
    · rename_i n' hn
      split at hl
      · rename_i kvs hk
        cases hl
        obtain ⟨a, o, ha, hH, vs, rfl, hr⟩ := hm.at_ n _ hk
        refine ⟨a, .dK vs, hH, trivial, fun od => ?_⟩
        obtain ⟨e1, m1⟩ := hm.set (o := .frz od (.dK vs)) (m := .dL kvs) hk ha ⟨od, vs, rfl, hr⟩
        refine ⟨ι, env, _, hs.up e1, m1, ?_⟩
        generalize ga env (M.set n (.dL kvs)) = r at h
        cases r with
        | bad => exact h.elim
        | exc x env' M' => exact h.elim
        | ok f env' M' =>
          have h : postS X.K ca W D H ι (match M'[n]? with
            | some (.dL kvs) => .ok f env' (M'.set n (.dK kvs))
            | _ => .bad) := h
          intro H' ι' e' hm'
          split at h
          · rename_i kvs' hk'
            have ha' := pre_get ha e'.pre
            obtain ⟨od', vs', hH', lv, m2⟩ := hm'.unlock hk' ha'
            have hf : H' a = some (.frz od (.dK vs)) := e'.le.frzs _ _ _ upd_same
            rw [hf] at hH'
            cases hH'
            have ex : Ext H ι (upd H' a (.dK vs)) ι' := by
              refine ⟨⟨fun b w hb nm => ?_⟩, e'.pre⟩
              have hne : b ≠ a := by
                rintro rfl
                rw [hH] at hb
                cases hb
                exact nm trivial
              rw [upd_ne hne]
              exact e'.le.keep b w (by rw [upd_ne hne]; exact hb) nm
            have q := h _ _ ex m2
            cases f with
            | next => exact fun σ' hs' => ⟨hf, q σ' (hs'.mono lv (List.prefix_refl _))⟩
            | brk => exact fun σ' hs' => ⟨hf, q σ' (hs'.mono lv (List.prefix_refl _))⟩
            | cont => exact fun σ' hs' => ⟨hf, q σ' (hs'.mono lv (List.prefix_refl _))⟩
            | ret d => exact fun v rv => ⟨hf, q v (RV.mono lv (List.prefix_refl _) _ _ rv)⟩
          · exact h.elim
      · cases hl
    · cases hl
  · exact h.elim

/-! ### errors -/
section
variable {K : Fr} {ca : Nat → Addr × List Str} {W : WX} {D : Ends} {H : Hp} {ι : List Addr} {X : Cx} {env : Py.Env} {M : Mem}
/-- what an except clause gives back, the error at a -/
def tX (K : Fr) (ca : Nat → Addr × List Str) (c : Nat) (a : Addr) (cls : Value) (d : Option Addr) (i : Nat) (x : XE) : TE := fun σ H Q => ∃ (ι : List Addr) (M : Mem) (e : Exn) (dv : Py.D), RM K H ι M ∧ σ[i]? = some (some (.ref a)) ∧ RX K ca H ι e cls d ∧ e.cls = c ∧ evX x e.fs = some dv ∧
  ∀ H' ι', Ext H ι H' ι' → RM K H' ι' M → ∀ v, RV K H' ι' dv v → Q v H'
def tXs (K : Fr) (ca : Nat → Addr × List Str) (c : Nat) (a : Addr) (cls : Value) (d : Option Addr) (i : Nat) (x : Xs) : TA := fun σ H Q => ∃ (ι : List Addr) (M : Mem) (e : Exn) (dv : List Py.D), RM K H ι M ∧ σ[i]? = some (some (.ref a)) ∧ RX K ca H ι e cls d ∧ e.cls = c ∧ evXs x e.fs = some dv ∧
  ∀ H' ι', Ext H ι H' ι' → RM K H' ι' M → ∀ v, RVs K H' ι' dv v → Q v H'
theorem RX.up {H' : Hp} {ι' : List Addr} {x : Exn} {c : Value} {d : Option Addr} (h : RX K ca H ι x c d) (e : Ext H ι H' ι') (nx : ∀ dx vs, H dx = some (.xd vs) → H' dx = some (.xd vs)) : RX K ca H' ι' x c d := by
  obtain ⟨h1, h2⟩ := h
  refine ⟨h1, ?_⟩
  rcases h2 with h2 | ⟨dx, vs, e1, e2, e3, p⟩
  · exact .inl h2
  · exact .inr ⟨dx, vs, e1, nx dx vs e2, e3, p.up e⟩
end
def asAttr : Expr → Option (Str × Str) | .Attribute (.Name y _) f _ => some (y, f) | _ => none
theorem asAttr_of {e : Expr} {y f : Str} (h : asAttr e = some (y, f)) : ∃ p q, e = .Attribute (.Name y p) f q := by unfold asAttr at h; split at h <;> cases h; exact ⟨_, _, rfl⟩
mutual
def ckX (fs : List Str) (n : Str) : XE → Expr → Bool
  | .int j, ex => decide (asInt ex = some j)
  | .str s, ex => (match asStr ex with | some z => decide (z.cps.toList = s) | none => false)
  | .bl b, ex => decide (asBool ex = some b)
  | .non, ex => isNone ex
  | .fld j, ex => (match asAttr ex with | some (y, f) => decide (y = n) && decide (fs[j]? = some f) | none => false)
  | .tup xs, ex => (match asTup ex with | some es => ckXs fs n xs es | none => false)
def ckXs (fs : List Str) (n : Str) : Xs → List Expr → Bool
  | .nil, es => es.isEmpty
  | .cons x xs, es => (match es with | e :: es => ckX fs n x e && plainX e && ckXs fs n xs es | [] => false)
end
/-- names of fields, each once -/
theorem xd_get : ∀ {vs : List (Str × V)} {j : Nat} {f : Str} {v : V}, (vs.map (·.1)).Nodup → (vs.map (·.1))[j]? = some f → (vs.map (·.2))[j]? = some v → vs.lookup f = some v
  | [], j, f, v, _, h, _ => by simp at h
  | (g, u) :: vs, 0, f, v, hn, h, h2 => by
    have e1 : g = f := by simpa using h
    have e2 : u = v := by simpa using h2
    subst e1 e2
    simp [List.lookup]
  | (g, u) :: vs, j + 1, f, v, hn, h, h2 => by
    have hn' := List.nodup_cons.mp (show (g :: vs.map (·.1)).Nodup from hn)
    have h : (vs.map (·.1))[j]? = some f := by simpa using h
    have h2 : (vs.map (·.2))[j]? = some v := by simpa using h2
    have hne : f ≠ g := by
      rintro rfl
      exact hn'.1 (List.mem_of_getElem? h)
    have q : (f == g) = false := beq_eq_false_iff_ne.mpr hne
    have := xd_get hn'.2 h h2
    simpa [List.lookup, q] using this
section
variable {X : Cx} {ca : Nat → Addr × List Str} {c i : Nat} {a : Addr} {oe : Obj} {cls : Value} {d : Option Addr} {pn : List (Addr × Obj)} {fs : List Str} {n : Str}
mutual
theorem okX (hN : X.N[i]? = some n) (hv : Vis X.env.scope n) (hd : (n == ("__debug__" : Str)) = false) (hcd : (n == ("__classdict__" : Str)) = false) (hfs : (ca c).2 = fs) (hnd : fs.Nodup) (hT : fs ≠ [] → XfC X.K (ca c).1 ∧ ∀ f ∈ fs, PySem.W.findIn X.K (.ref (ca c).1) f = some none) (hz : Zc cls d oe) (hf : ∃ vs, oe.data = .fields vs) :
    ∀ (x : XE) (ex : Expr), ckX fs n x ex = true → PE (X.suite a ((a, oe) :: pn)) ex (tX X.K ca c a cls d i x)
  | .int j, ex, h => by
    unfold ckX at h
    obtain ⟨k, p, rfl⟩ := asInt_of (of_decide_eq_true h)
    exact pe_int.weak fun σ H Q ⟨ι, M, e, dv, hm, hs, rx, he, hev, q⟩ => by cases hev; exact q H ι (Ext.refl _ _) hm _ (.int j)
  | .str s, ex, h => by
    unfold ckX at h
    split at h
    · rename_i z hx
      obtain ⟨k, p, rfl⟩ := asStr_of hx
      have e0 : z.cps.toList = s := of_decide_eq_true h
      subst e0
      refine pe_str.weak fun σ H Q ⟨ι, M, e, dv, hm, hs, rx, he, hev, q⟩ => ?_
      cases hev
      refine q H ι (Ext.refl _ _) hm _ ?_
      have := RV.str (K := X.K) (H := H) (ι := ι) z.cps.toList
      simpa [sv] using this
    · cases h
  | .bl b, ex, h => by
    unfold ckX at h
    obtain ⟨k, p, rfl⟩ := asBool_of (of_decide_eq_true h)
    exact pe_bl.weak fun σ H Q ⟨ι, M, e, dv, hm, hs, rx, he, hev, q⟩ => by cases hev; exact q H ι (Ext.refl _ _) hm _ (.bl b)
  | .non, ex, h => by
    unfold ckX at h
    obtain ⟨k, p, rfl⟩ := isNone_of h
    exact pe_non.weak fun σ H Q ⟨ι, M, e, dv, hm, hs, rx, he, hev, q⟩ => by cases hev; exact q H ι (Ext.refl _ _) hm _ .non
  | .fld j, ex, h => by
    unfold ckX at h
    split at h
    · rename_i y f hx
      obtain ⟨p, p2, rfl⟩ := asAttr_of hx
      simp only [Bool.and_eq_true, decide_eq_true_eq] at h
      obtain ⟨rfl, hj⟩ := h
      have hmem := List.mem_of_getElem? hj
      obtain ⟨T, hno⟩ := hT (List.ne_nil_of_mem hmem)
      refine (pe_xf T (hno f hmem) hz hf (pe_var (X := X.suite a ((a, oe) :: pn)) hN hv hd hcd)).weak fun σ H Q ⟨ι, M, e, dv, hm, hs, rx, he, hev, q⟩ => ?_
      obtain ⟨r1, r2⟩ := rx
      rcases r2 with r2 | ⟨dx, vs, e1, e2, e3, r⟩
      · rw [r2] at hev
        cases hev
      · obtain ⟨v, hv2, rv⟩ := r.get (show e.fs[j]? = some dv from hev)
        rw [he] at r1 e3
        rw [hfs] at e3
        refine ⟨_, hs, rfl, r1, dx, vs, v, e1, e2, xd_get (by rw [e3]; exact hnd) (by rw [e3]; exact hj) hv2, ?_⟩
        exact q H ι (Ext.refl _ _) hm v rv
    · cases h
  | .tup xs, ex, h => by
    unfold ckX at h
    split at h
    · rename_i es hx
      obtain ⟨k, p, rfl⟩ := asTup_of hx
      refine (pe_tup (okXs hN hv hd hcd hfs hnd hT hz hf xs es h)).weak fun σ H Q ⟨ι, M, e, dv, hm, hs, rx, he, hev, q⟩ => ?_
      have hev : (evXs xs e.fs).bind (fun ds => if ds.length ≤ sizeLine then some (.tup ds) else none) = some dv := hev
      cases hds : evXs xs e.fs with
      | none => rw [hds] at hev; cases hev
      | some ds =>
        rw [hds] at hev
        have hev : (if ds.length ≤ sizeLine then some (Py.D.tup ds) else none) = some dv := hev
        split at hev
        · rename_i hl
          cases hev
          refine ⟨ι, M, e, ds, hm, hs, rx, he, hds, fun H1 ι1 e1 hm1 vs rvs => ⟨by rw [← rvs.length]; exact hl, fun p np => ?_⟩⟩
          have ex : Ext H1 ι1 (upd H1 p (.tup vs)) ι1 := ⟨Le.new np, List.prefix_refl _⟩
          exact q _ _ (e1.trans ex) (hm1.other np) _ (.tup (SqT.of upd_same) (rvs.up ex))
        · cases hev
    · cases h
theorem okXs (hN : X.N[i]? = some n) (hv : Vis X.env.scope n) (hd : (n == ("__debug__" : Str)) = false) (hcd : (n == ("__classdict__" : Str)) = false) (hfs : (ca c).2 = fs) (hnd : fs.Nodup) (hT : fs ≠ [] → XfC X.K (ca c).1 ∧ ∀ f ∈ fs, PySem.W.findIn X.K (.ref (ca c).1) f = some none) (hz : Zc cls d oe) (hf : ∃ vs, oe.data = .fields vs) :
    ∀ (xs : Xs) (es : List Expr), ckXs fs n xs es = true → PA (X.suite a ((a, oe) :: pn)) es (tXs X.K ca c a cls d i xs)
  | .nil, es, h => by
    unfold ckXs at h
    have e0 := List.isEmpty_iff.mp h
    subst e0
    exact pa_nil.weak fun σ H Q ⟨ι, M, e, dv, hm, hs, rx, he, hev, q⟩ => by cases hev; exact q H ι (Ext.refl _ _) hm [] .nil
  | .cons x xs, es, h => by
    unfold ckXs at h
    cases es with
    | nil => cases h
    | cons ex es =>
      simp only [Bool.and_eq_true] at h
      refine (pa_cons (okX hN hv hd hcd hfs hnd hT hz hf x ex h.1.1) (okXs hN hv hd hcd hfs hnd hT hz hf xs es h.2) (star_of h.1.2 es _)).weak fun σ H Q ⟨ι, M, e, dv, hm, hs, rx, he, hev, q⟩ => ?_
      have hev : (evX x e.fs).bind (fun d => (evXs xs e.fs).map (d :: ·)) = some dv := hev
      cases h1 : evX x e.fs with
      | none => rw [h1] at hev; cases hev
      | some d1 =>
        rw [h1] at hev
        have hev : (evXs xs e.fs).map (d1 :: ·) = some dv := hev
        cases h2 : evXs xs e.fs with
        | none => rw [h2] at hev; cases hev
        | some ds =>
          rw [h2] at hev
          cases hev
          refine ⟨ι, M, e, d1, hm, hs, rx, he, h1, fun H1 ι1 e1 hm1 v rv => ?_⟩
          exact ⟨ι1, M, e, ds, hm1, hs, rx.up e1 (fun dx vs h => e1.le.keep _ _ h fun z => z), he, h2, fun H2 ι2 e2 hm2 vs rvs => q H2 ι2 (e1.trans e2) hm2 _ (.cons (rv.up e2) rvs)⟩
end
end
/-! ### the text -/
def asAssign : Stmt → Option (Expr × Expr × Nat) | .Assign [t] e p => some (t, e, p.line) | _ => none
def asAug : Stmt → Option (Str × Operator × Expr) | .AugAssign (.Name x _) o e _ => some (x, o, e) | _ => none
def asExpr : Stmt → Option Expr | .Expr e _ => some e | _ => none
def asRet : Stmt → Option (Option Expr) | .Return e _ => some e | _ => none
def asIfS : Stmt → Option (Expr × List Stmt × List Stmt) | .If c a b _ => some (c, a, b) | _ => none
def asFor : Stmt → Option (Expr × Expr × List Stmt) | .For t i b [] _ => some (t, i, b) | _ => none
def asWhile : Stmt → Option (Expr × List Stmt) | .While c b [] _ => some (c, b) | _ => none
def asRaise : Stmt → Option (Str × List Expr) | .Raise (some (.Call (.Name x _) es [] _)) none _ => some (x, es) | _ => none
def asTryAs : Stmt → Option (List Stmt × Str × Str × Expr) | .Try b [.ExceptHandler (some (.Name x _)) (some n) [.Return (some e) _] _] [] [] _ => some (b, x, n, e) | _ => none
theorem asRaise_of {s : Stmt} {x : Str} {es : List Expr} (h : asRaise s = some (x, es)) : ∃ p q r, s = .Raise (some (.Call (.Name x p) es [] q)) none r := by unfold asRaise at h; split at h <;> cases h; exact ⟨_, _, _, rfl⟩
theorem asTryAs_of {s : Stmt} {b : List Stmt} {x n : Str} {e : Expr} (h : asTryAs s = some (b, x, n, e)) : ∃ p q r t, s = .Try b [.ExceptHandler (some (.Name x p)) (some n) [.Return (some e) q] r] [] [] t := by unfold asTryAs at h; split at h <;> cases h; exact ⟨_, _, _, _, rfl⟩
def isBrk : Stmt → Bool | .Break _ => true | _ => false
def isCont : Stmt → Bool | .Continue _ => true | _ => false
def isPass : Stmt → Bool | .Pass _ => true | _ => false
section
variable {s : Stmt}
theorem asAssign_of {t e : Expr} {l : Nat} (h : asAssign s = some (t, e, l)) : ∃ p, s = .Assign [t] e p ∧ p.line = l := by unfold asAssign at h; split at h <;> cases h; exact ⟨_, rfl, rfl⟩
theorem asAug_of {x : Str} {o : Operator} {e : Expr} (h : asAug s = some (x, o, e)) : ∃ p q, s = .AugAssign (.Name x p) o e q := by unfold asAug at h; split at h <;> cases h; exact ⟨_, _, rfl⟩
theorem asExpr_of {e : Expr} (h : asExpr s = some e) : ∃ p, s = .Expr e p := by unfold asExpr at h; split at h <;> cases h; exact ⟨_, rfl⟩
theorem asRet_of {e : Option Expr} (h : asRet s = some e) : ∃ p, s = .Return e p := by unfold asRet at h; split at h <;> cases h; exact ⟨_, rfl⟩
theorem asIfS_of {c : Expr} {a b : List Stmt} (h : asIfS s = some (c, a, b)) : ∃ p, s = .If c a b p := by unfold asIfS at h; split at h <;> cases h; exact ⟨_, rfl⟩
theorem asFor_of {t i : Expr} {b : List Stmt} (h : asFor s = some (t, i, b)) : ∃ p, s = .For t i b [] p := by unfold asFor at h; split at h <;> cases h; exact ⟨_, rfl⟩
theorem asWhile_of {c : Expr} {b : List Stmt} (h : asWhile s = some (c, b)) : ∃ p, s = .While c b [] p := by unfold asWhile at h; split at h <;> cases h; exact ⟨_, rfl⟩
theorem isBrk_of (h : isBrk s = true) : ∃ p, s = .Break p := by unfold isBrk at h; split at h <;> cases h; exact ⟨_, rfl⟩
theorem isCont_of (h : isCont s = true) : ∃ p, s = .Continue p := by unfold isCont at h; split at h <;> cases h; exact ⟨_, rfl⟩
theorem isPass_of (h : isPass s = true) : ∃ p, s = .Pass p := by unfold isPass at h; split at h <;> cases h; exact ⟨_, rfl⟩
end
/-- plain, and no comprehension -/
def noLc (e : Expr) : Bool := plainX e && (asLc e).isNone && (match e with | .ListComp .. => false | _ => true)
theorem swaps_of {e : Expr} (h : noLc e = true) (t : Option Expr) (l : Nat) (env : PySem.Env) : swapsWith e t l env = pure false := by
  unfold noLc at h
  simp only [Bool.and_eq_true] at h
  obtain ⟨⟨h1, _⟩, h2⟩ := h
  cases e <;> first | rfl | exact absurd h2 Bool.false_ne_true | cases h1
/-- name = [..]: is the list stored within the comprehension's own steps? -/
def swB (sc : Scope) (y : Str) (py : Pos) (scope : Scope) (p : Pos) : Bool := isLocal sc y && (py.line == p.line) && !(scope.names.any fun (n, k) => n == y && (k == .local || k == .cell))
def isTup : Expr → Bool | .Tuple .. => true | _ => false
def lcPos : Expr → Option (Scope × Pos) | .ListComp _ _ s p => some (s, p) | _ => none
def namePos : Expr → Option Pos | .Name _ p => some p | _ => none
section
variable (nm : Nm) (N : List Str)
def ckSet (sc : Scope) (tg : Tg) (e : E) (t ex : Expr) : Bool := ckTg N sc tg t && (match tg, e with
  | .name _, .lc own ctg it c el => ckE nm N (.lc own ctg it c el) sc ex
  | .name _, e => ckE nm N e sc ex && noLc ex
  | .tup [.name i, .name j], .tup (.cons a (.cons b .nil)) => (match asTup t, asTup ex with
    | some [t1, t2], some [x, y] => (match asName t1, asName t2, namePos t1, namePos t2 with
      | some n1, some n2, some p1, some p2 => isLocal sc n1 && isLocal sc n2 && decide (i ≠ j) && (p1.line == p2.line) && ckE nm N a sc x && ckE nm N b sc y && plainX x && plainX y && !([x, y].all (foldedForSure 8)) && !([x, y].all (constantsAlone 8))
      | _, _, _, _ => false)
    | _, _ => false)
  | _, e => ckE nm N e sc ex && noLc ex && !isTup ex)
mutual
def ckS : S → Scope → Stmt → Bool
  | .set tg e => fun sc st => match asAssign st with
    | some (t, ex, _) => ckSet nm N sc tg e t ex
    | none => false
  | .setix o i e => fun sc st => match asAssign st with
    | some (t, ex, _) => (match asSub t with
      | some (x, y) => ckE nm N o sc x && ckE nm N i sc y && ckE nm N e sc ex && plainX y && noLc ex
      | none => false)
    | none => false
  | .aug i o e => fun sc st => match asAug st with
    | some (x, op, ex) => decide (N[i]? = some x) && locB sc x && decide (op = o.py) && (decide (o = .add) || decide (o = .sub)) && ckE nm N e sc ex
    | none => false
  | .expr e => fun sc st => match asExpr st with
    | some ex => ckE nm N e sc ex && noLc ex
    | none => false
  | .ret e => fun sc st => match asRet st with
    | some (some ex) => ckE nm N e sc ex
    | _ => false
  | .ret0 => fun _ st => match asRet st with
    | some none => true
    | _ => false
  | .ifS c a b => fun sc st => match asIfS st with
    | some (x, y, z) => ckT nm N c sc x && ckSs a sc y && ckSs b sc z
    | none => false
  | .forS tg it b => fun sc st => match asFor st with
    | some (t, i, y) => ckTg N sc tg t && ckIt nm N it sc i && plainX i && ckSs b sc y
    | none => false
  | .whileS c b => fun sc st => match asWhile st with
    | some (x, y) => ckT nm N c sc x && ckSs b sc y
    | none => false
  | .brk => fun _ st => isBrk st
  | .cont => fun _ st => isCont st
  | .pass => fun _ st => isPass st
  | .stuck => fun _ _ => true
  | .tidy s => fun sc st => ckS s sc st
  | .lock _ s => fun sc st => ckS s sc st
  | .raise0 c => fun sc st => match asRaise st, nm.cl c with
    | some (x, [a]), some I => decide (x = I.name) && glB sc x && I.fs.isEmpty && (asStr a).isSome
    | _, _ => false
  | .raise c a b => fun sc st => match asRaise st, nm.cl c with
    | some (x, [y, z]), some I => decide (x = I.name) && glB sc x && decide (I.fs.length = 2) && ckE nm N a sc y && ckE nm N b sc z && plainX y && plainX z
    | _, _ => false
  | .tryAs b c os i x => fun sc st => match asTryAs st, nm.cl c with
    | some (y, u, n, ex), some I => decide (u = I.name) && glB sc u && decide (N[i]? = some n) && isLocal sc n && visB sc n && (os.all fun o => (nm.cl o).isSome && !subC o c) && ckX I.fs n x ex && ckSs b sc y
    | _, _ => false
def ckSs : Ss → Scope → List Stmt → Bool
  | .nil => fun _ sts => sts.isEmpty
  | .cons s ss => fun sc sts => match sts with
    | st :: sts => ckS s sc st && ckSs ss sc sts
    | [] => false
end
end

/-! ### each statement -/
section
variable {X : Cx} {ca : Nat → Addr × List Str} {W : WX} {e c : Expr} {pos : Pos} {fe : Py.Env → Mem → Res D} {ft : Py.Env → Mem → Res Bool} {fi : Py.Env → Mem → Res Wk} {ga gb : Py.Env → Mem → SR} {a b : List Stmt} {st : Stmt}
theorem ds_raise0 {C : Nat} {x msg : Str} {j : Nat} {p p2 q r : Pos} {I : ClI} (hc : X.calm = true) (tk : Takes X W) (O : ClsOk X.prog X.K X.mg (ca C).1 I) (hI : I.fs = []) (hx : x = I.name) (hg : Gl X x) (hd : (x == ("__debug__" : Str)) = false) :
    PS X (.Raise (some (.Call (.Name x p) [.Constant (.str msg) j p2] [] q)) none r) (tS X.K ca W fun env M => .exc ⟨C, []⟩ env M) := by
  subst hx
  have hq : PySem.W.excIn X.K (ca C).1 PySem.HandSPX.veTail "ValueError.__new__" = true := by
    rcases O.how with h | ⟨n1, n2, h, _⟩
    · exact h.2
    · rw [hI] at h; cases h
  refine (ps_raise hc tk (pmk_own PySem.F.excBase_ValueError hq O.g O.k (raises_own O.b O.t) hg hd)).weak fun D σ H ⟨ι, env, M, hs, hm, h⟩ => ?_
  exact h H ι σ _ none (Ext.refl H ι) hm ⟨rfl, .inl rfl⟩ hs
theorem st_two {env : Py.Env} {ra : Res Py.D} {rb : Mem → Res Py.D} {k : Py.D → Py.D → Mem → SR} : Res.st ra env (fun d M => Res.st (rb M) env fun d2 M => k d d2 M) = Res.st (ra.bind fun d M => (rb M).bind fun d2 M => Res.ok [d, d2] M) env fun ds M => match ds with
    | [d, d2] => k d d2 M
    | _ => .bad := by
  cases ra with
  | ok d M1 =>
    show Res.st (rb M1) env _ = Res.st ((rb M1).bind fun d2 M => Res.ok [d, d2] M) env _
    cases rb M1 <;> rfl
  | exc => rfl
  | bad => rfl
theorem ds_raise {C : Nat} {x : Str} {y z : Expr} {p q r : Pos} {I : ClI} {k : Nat} {fa fb : Py.Env → Mem → Res Py.D} (hc : X.calm = true) (tk : Takes X W) (hr : Room k X.A) (O : ClsOk X.prog X.K X.mg (ca C).1 I) (hI : I.fs.length = 2) (hca : (ca C).2 = I.fs) (hx : x = I.name) (hg : Gl X x) (hd : (x == ("__debug__" : Str)) = false)
    (ha : PE X y (tE X.K ca W fa)) (hb : PE X z (tE X.K ca W fb)) (py1 : plainX y = true) (pz1 : plainX z = true) :
    PS X (.Raise (some (.Call (.Name x p) [y, z] [] q)) none r) (tS X.K ca W fun env M => Res.st (fa env M) env fun d M => Res.st (fb env M) env fun d2 M => .exc ⟨C, [d, d2]⟩ env M) := by
  subst hx
  rcases O.how with h | ⟨n1, n2, hn, ⟨fI, cc, cda, qq, msg, qual, sc, T⟩, xf, hs0⟩
  · rw [h.1] at hI; cases hI
  · have hA := da_cons ha (da_cons hb da_nil pz1) py1
    refine (ps_raise hc tk (pmk2 T O.g hs0 hr hA hg hd (star_of py1 [z] X.env) (stars_of q X.env (by rw [List.all_cons, pz1]; rfl)).1)).weak fun D σ H ⟨ι, env, M, hs, hm, h⟩ => ?_
    dsimp only at h
    rw [st_two] at h
    refine ⟨ι, env, M, hs, hm, ?_⟩
    have e0 : ((fa env M).bind fun d M => ((fun env M => (fb env M).bind fun d M => Res.bind (Res.ok [] M) fun ds M => Res.ok (d :: ds) M) env M).bind fun ds M => Res.ok (d :: ds) M) = ((fa env M).bind fun d M => (fb env M).bind fun d2 M => Res.ok [d, d2] M) := by
      cases fa env M with
      | ok d M1 =>
        show ((fb env M1).bind fun d M => Res.bind (Res.ok [] M) fun ds M => Res.ok (d :: ds) M).bind _ = _
        show _ = (fb env M1).bind _
        cases fb env M1 <;> rfl
      | exc => rfl
      | bad => rfl
    have h2 := postS_st hs h
    refine cast (congrArg (fun r => post X.K ca W σ H ι r _) e0.symm) (post_imp h2 fun ds M1 H1 ι1 e1 hm1 h1 vs rv => ?_)
    match ds, rv, h1 with
    | [d1, d2], rv, h1 =>
      obtain ⟨v1, v2, rfl, r1, r2⟩ := rv.two
      refine ⟨v1, v2, rfl, fun dx hdx => ?_⟩
      have ex : Ext H1 ι1 (upd H1 dx (.xd [(n1, v1), (n2, v2)])) ι1 := ⟨Le.new hdx, List.prefix_refl _⟩
      have h1 : postS X.K ca W D H1 ι1 (.exc ⟨C, [d1, d2]⟩ env M1) := h1
      exact h1 _ ι1 σ _ (some dx) ex (hm1.other hdx) ⟨rfl, .inr ⟨dx, _, rfl, upd_same, by rw [hca, hn]; rfl, .cons (r1.up ex) (.cons (r2.up ex) .nil)⟩⟩ (hs.up (e1.trans ex))
    | [], _, h1 => exact h1.elim
    | [_], _, h1 => exact h1.elim
    | _ :: _ :: _ :: _, _, h1 => exact h1.elim
theorem ds_tryAs {C : Nat} {os : List Nat} {i : Nat} {xe : XE} {x n : Str} {body : List Stmt} {ex : Expr} {p q r t : Pos} {I : ClI} (hs : X.stack = X.env :: X.outer) (hf : X.env.frame = some X.env.locals) (hN : X.N.Nodup) (hi : X.N[i]? = some n) (hln : X.env.kindOf n = some .local) (hv : Vis X.env.scope n) (hd : (n == ("__debug__" : Str)) = false) (hcd : (n == ("__classdict__" : Str)) = false)
    (hg : Gl X x) (hxd : (x == ("__debug__" : Str)) = false) (tk : Takes X W) (O : ClsOk X.prog X.K X.mg (ca C).1 I) (hx : x = I.name) (hca : (ca C).2 = I.fs) (hsame : PySem.W.exmOne X.K (.ref (ca C).1) (.ref (ca C).1) = some true) (hos : ∀ o ∈ os, PySem.W.exmOne X.K (.ref (ca o).1) (.ref (ca C).1) = some false) (hck : ckX I.fs n xe ex = true)
    (hb : ∀ (W : WX) (pn : List (Addr × Obj)) (xe : Value → Shared → Prop), Takes (X.tr pn xe) W → PassesOwn (model X.prog X.w) X.A X.env xe → PSs (X.tr pn xe) body (tS X.K ca W ga)) :
    PS X (.Try body [.ExceptHandler (some (.Name x p)) (some n) [.Return (some ex) q] r] [] [] t) (tS X.K ca W fun env M => catch_ C os i xe (ga env M)) := by
  subst hx
  have hT : I.fs ≠ [] → I.fs.Nodup ∧ XfC X.K (ca C).1 ∧ ∀ f ∈ I.fs, PySem.W.findIn X.K (.ref (ca C).1) f = some none := fun hne => by
    rcases O.how with h | ⟨n1, n2, hn, ⟨fI, cc, cda, qq, msg, qual, sc, T⟩, xf, hs0⟩
    · exact absurd h.1 hne
    · refine ⟨by rw [hn]; exact (List.nodup_cons.mp T.dj).2, xf, fun f hf => ?_⟩
      rw [hn] at hf
      rcases List.mem_cons.mp hf with rfl | hf
      · exact T.no1
      · rw [List.mem_singleton.mp hf]; exact T.no2
  have hnd : I.fs.Nodup := by
    by_cases h : I.fs = []
    · rw [h]; exact List.nodup_nil
    · exact (hT h).1
  refine (ps_try_as (pos := t) (pos' := r) (np := p) (ts := fun a cls d => tRet (tX X.K ca C a cls d i xe)) hs hf hN hi hln ⟨hg, hxd, .inl O.g⟩ tk hb
    (fun a oe cls d pn hz hfd => pss_one (ps_ret (okX hi hv hd hcd hca hnd (fun h => (hT h).2) hz hfd xe ex hck)))).weak fun D σ H ⟨ι, env, M, hs, hm, h⟩ => ?_
  refine ⟨ι, env, M, hs, hm, ?_⟩
  have h : postS X.K ca W D H ι (catch_ C os i xe (ga env M)) := h
  generalize ga env M = rr at h
  cases rr with
  | ok f env' M' => exact h
  | bad => exact h.elim
  | exc e env' M' =>
    intro H' ι' σ' cl d ex' hm' rx hs'
    unfold catch_ at h
    dsimp only at h
    split at h
    · rename_i hc
      split at h
      · rename_i dv hev
        refine ⟨true, by rw [rx.1, hc.1]; exact hsame, fun _ a0 ha0 => ?_, fun z => nomatch z⟩
        refine ⟨ι', M', e, dv, hm', ?_, rx, hc.1, hev, fun H2 ι2 e2 m2 v rv => h H2 ι2 (ex'.trans e2) m2 v rv⟩
        exact List.getElem?_set_self (by rw [hs'.len]; exact hc.2)
      · exact h.elim
    · split at h
      · rename_i hc ho
        exact ⟨false, by rw [rx.1]; exact hos _ ho, (fun z => nomatch z), fun _ => h H' ι' σ' cl d ex' hm' rx hs'⟩
      · exact h.elim
theorem dss_nil : PSs X [] (tS X.K ca W fun env M => .ok .next env M) := pss_nil.weak fun D σ H ⟨ι, env, M, hs, hm, h⟩ => postS_ok h hm σ hs
theorem dss_cons (h1 : PS X st (tS X.K ca W ga)) (h2 : PSs X b (tS X.K ca W gb)) : PSs X (st :: b) (tS X.K ca W fun env M => match ga env M with
    | .ok .next env' M' => gb env' M'
    | r => r) := by
  refine (pss_cons h1 h2).weak fun D σ H ⟨ι, env, M, hs, hm, h⟩ => ?_
  refine ⟨ι, env, M, hs, hm, ?_⟩
  have h : postS X.K ca W D H ι (match ga env M with
    | .ok .next env' M' => gb env' M'
    | r => r) := h
  generalize ga env M = r at h ⊢
  cases r with
  | ok f env' M' =>
    cases f with
    | next => exact fun H' ι' e' hm' σ' hs' => ⟨ι', env', M', hs', hm', postS_up h e'⟩
    | brk => exact h
    | cont => exact h
    | ret d => exact h
  | exc x env' M' => exact h
  | bad => exact h
theorem ds_asg {tg : Tg} {t : Expr} (he : PE X e (tE X.K ca W fe)) (hg : PG X t (tG X.K tg)) (hs : swapsWithSole [t] e pos.line X.env = pure false) (hw : swappedStores [t] e X.env = pure none) (h1 : (assignEach [t] X.env).map (·.2) = [assign t X.env]) :
    PS X (.Assign [t] e pos) (tS X.K ca W fun env M => Res.st (fe env M) env fun d M => match bindTg tg d env with
      | some env' => .ok .next env' M
      | none => .bad) := by
  refine (ps_asg he hg hs hw h1).weak fun D σ H ⟨ι, env, M, hs, hm, h⟩ => ?_
  refine ⟨ι, env, M, hs, hm, post_imp (postS_st hs h) fun d M1 H1 ι1 e1 hm1 h1 x rx => ?_⟩
  split at h1
  · rename_i env' hb
    exact ⟨ι1, env, d, env', hs.up e1, rx, hb, fun σ' hs' _ => postS_ok h1 hm1 σ' hs'⟩
  · exact h1.elim
theorem ds_setLc {i : Nat} {y : Str} {py p : Pos} {own : List Nat} {ownp : List (Str × Nat)} {tgt : Tg} {elt tg iter : Expr} {ifs : List Expr} {scope : Scope} {fel : Py.Env → Mem → Res D} (hown : ownp.map (·.2) = own) (hc : X.calm = true) (hN : X.N.Nodup) (hy : X.N[i]? = some y)
    (hyl : X.env.scope.names.lookup y = some .local) (hsw : swapsWith (.ListComp elt [⟨tg, iter, ifs, 0⟩] scope p) (some (.Name y py)) pos.line X.env = pure true) (hi : PI X tg iter (tI X.K ca W fi)) (ok : BlkOk X.N X.env.scope scope ownp)
    (hg : ∀ (s : Shared) (H : Hp) (C : Addr) (cl : List (Str × Addr)) (fp : List Addr), PG (X.blk s H scope (compEnvC scope cl C X.env) fp) tg (tG X.K tgt)) (ht : ∀ (s : Shared) (H : Hp) (C : Addr) (cl : List (Str × Addr)) (fp : List Addr), PTs (X.blk s H scope (compEnvC scope cl C X.env) fp) ifs (tT X.K ca W0 ft))
    (he : ∀ (s : Shared) (H : Hp) (C : Addr) (cl : List (Str × Addr)) (fp : List Addr), PE (X.blk s H scope (compEnvC scope cl C X.env) fp) elt (tE X.K ca W0 fel)) (hs : ∀ x, foldedSetIterable iter X.env x = pure x) (hsl : ∀ i ∈ slotsOf tgt, i ∈ own) :
    PS X (.Assign [.Name y py] (.ListComp elt [⟨tg, iter, ifs, 0⟩] scope p) pos) (tS X.K ca W fun env M => Res.st (lcD fi ft fel tgt own env M) env fun d M => match bindTg (.name i) d env with
      | some env' => .ok .next env' M
      | none => .bad) := by
  refine (ps_setLc hc hN hy hyl hsw hi ok hg ht he hs).weak fun D σ H ⟨ι, env, M, hs, hm, h⟩ => ?_
  refine lc_weak hown hsl σ H _ ⟨ι, env, M, hs, hm, post_imp (postS_st hs h) fun d M1 H1 ι1 e1 hm1 h1 x rx => ?_⟩
  exact postS_ok (show postS X.K ca W D H1 ι1 (.ok .next (env.set i (some d)) M1) from h1) hm1 _ ((hs.up e1).set rx)
theorem ds_setix {k : Nat} {o i : Expr} {p : Pos} {fo fi : Py.Env → Mem → Res D} (hr : Room k X.A) (ho : PE X o (tE X.K ca W fo)) (hi : PE X i (tE X.K ca W fi)) (he : PE X e (tE X.K ca W fe)) (hp : plainX i = true) (hl : noLc e = true) :
    PS X (.Assign [.Subscript o i p] e pos) (tS X.K ca W fun env M => Res.st (fe env M) env fun v M => Res.st (fo env M) env fun x M => Res.st (fi env M) env fun y M => match opSetIx x y v M with
      | some M' => .ok .next env M'
      | none => .bad) := by
  have hg := pg_sub (pos := p) ho hi (setix_ok hr) (by cases i <;> first | exact fun _ => rfl | cases hp)
  refine (ps_asg he hg (show swapsWithSole [.Subscript o i p] e pos.line X.env = pure false from swaps_of hl (some (.Subscript o i p)) pos.line X.env) rfl rfl).weak fun D σ H ⟨ι, env, M, hs, hm, h⟩ => ?_
  refine ⟨ι, env, M, hs, hm, post_imp (postS_st hs h) fun d3 M1 H1 ι1 e1 hm1 h1 v rv => ?_⟩
  refine ⟨ι1, env, M1, hs.up e1, hm1, post_imp (postS_st (hs.up e1) h1) fun d1 M2 H2 ι2 e2 hm2 h2 x rx => ?_⟩
  refine ⟨ι2, env, M2, (hs.up e1).up e2, hm2, post_imp (postS_st ((hs.up e1).up e2) h2) fun d2 M3 H3 ι3 e3 hm3 h3 y ry => ?_⟩
  split at h3
  · rename_i M4 ha
    exact ⟨ι3, M3, d1, d2, d3, M4, hm3, rx.up e3, ry, (rv.up e2).up e3, ha, fun H' e' hm' => postS_ok (postS_up h3 e') hm' σ ((((hs.up e1).up e2).up e3).up e')⟩
  · exact h3.elim
theorem ds_aug {i : Nat} {x : Str} {p : Pos} (o : BOp) (ho : o = .add ∨ o = .sub) (hN : X.N.Nodup) (hi : X.N[i]? = some x) (hx : L2.Loc X.env.scope x) (hf : X.fn x = true) (he : PE X e (tE X.K ca W fe)) :
    PS X (.AugAssign (.Name x p) o.py e pos) (tS X.K ca W fun env M => match (env[i]?).bind id with
      | some x => Res.st (fe env M) env fun y M => match opAug o x y with
        | some z => .ok .next (env.set i (some z)) M
        | none => .bad
      | none => .bad) := by
  have get : ∀ {env : Py.Env} {d : D}, (env[i]?).bind id = some d → env[i]? = some (some d) := fun {env d} hd => by
    cases z : env[i]? with
    | none => rw [z] at hd; cases hd
    | some o =>
      rw [z] at hd
      have : o = some d := hd
      rw [this]
  rcases ho with rfl | rfl
  · refine (ps_aug (pos' := p) hN hi hx he ip_add (.inl hf)).weak fun D σ H ⟨ι, env, M, hs, hm, h⟩ => ?_
    dsimp only at h
    split at h
    · rename_i d0 hd
      obtain ⟨v, e0, r1⟩ := hs.at_ i d0 (get hd)
      refine ⟨v, e0, ι, env, M, hs, hm, post_imp (postS_st hs h) fun d M1 H1 ι1 e1 hm1 h1 y ry => ?_⟩
      cases r1 <;> cases ry <;> first | exact h1.elim | skip
      exact ⟨_, _, rfl, rfl, postS_ok h1 hm1 _ ((hs.up e1).set (.int _))⟩
    · exact h.elim
  · refine (ps_aug (pos' := p) hN hi hx he ip_sub (.inl hf)).weak fun D σ H ⟨ι, env, M, hs, hm, h⟩ => ?_
    dsimp only at h
    split at h
    · rename_i d0 hd
      obtain ⟨v, e0, r1⟩ := hs.at_ i d0 (get hd)
      refine ⟨v, e0, ι, env, M, hs, hm, post_imp (postS_st hs h) fun d M1 H1 ι1 e1 hm1 h1 y ry => ?_⟩
      cases r1 <;> cases ry <;> first | exact h1.elim | skip
      exact ⟨_, _, rfl, rfl, postS_ok h1 hm1 _ ((hs.up e1).set (.int _))⟩
    · exact h.elim
theorem ds_expr (he : PE X e (tE X.K ca W fe)) (hl : noLc e = true) : PS X (.Expr e pos) (tS X.K ca W fun env M => Res.st (fe env M) env fun _ M => .ok .next env M) := by
  refine (ps_expr he (swaps_of hl _ _ _)).weak fun D σ H ⟨ι, env, M, hs, hm, h⟩ => ?_
  exact ⟨ι, env, M, hs, hm, post_imp (postS_st hs h) fun d M1 H1 ι1 e1 hm1 h1 x rx => postS_ok h1 hm1 σ (hs.up e1)⟩
theorem ds_ret (he : PE X e (tE X.K ca W fe)) : PS X (.Return (some e) pos) (tS X.K ca W fun env M => Res.st (fe env M) env fun d M => .ok (.ret d) env M) := by
  refine (ps_ret he).weak fun D σ H ⟨ι, env, M, hs, hm, h⟩ => ?_
  exact ⟨ι, env, M, hs, hm, post_imp (postS_st hs h) fun d M1 H1 ι1 e1 hm1 h1 x rx => postS_ok h1 hm1 x rx⟩
theorem ds_ret0 : PS X (.Return none pos) (tS X.K ca W fun env M => .ok (.ret .non) env M) := ps_retN.weak fun D σ H ⟨ι, env, M, hs, hm, h⟩ => postS_ok h hm .non .non
theorem ds_brk : PS X (.Break pos) (tS X.K ca W fun env M => .ok .brk env M) := ps_break.weak fun D σ H ⟨ι, env, M, hs, hm, h⟩ => postS_ok h hm σ hs
theorem ds_cont : PS X (.Continue pos) (tS X.K ca W fun env M => .ok .cont env M) := ps_continue.weak fun D σ H ⟨ι, env, M, hs, hm, h⟩ => postS_ok h hm σ hs
theorem ds_pass : PS X (.Pass pos) (tS X.K ca W fun env M => .ok .next env M) := ps_pass.weak fun D σ H ⟨ι, env, M, hs, hm, h⟩ => postS_ok h hm σ hs
theorem ds_if (hc : PT X c (tT X.K ca W ft)) (ha : PSs X a (tS X.K ca W ga)) (hb : PSs X b (tS X.K ca W gb)) : PS X (.If c a b pos) (tS X.K ca W fun env M => Res.st (ft env M) env fun k M => match k with
    | true => ga env M
    | false => gb env M) := by
  refine (ps_if hc ha hb).weak fun D σ H ⟨ι, env, M, hs, hm, h⟩ => ?_
  refine ⟨ι, env, M, hs, hm, post_imp (postS_st hs h) fun k M1 H1 ι1 e1 hm1 h1 => ?_⟩
  cases k with
  | true => exact iteT ⟨ι1, env, M1, hs.up e1, hm1, h1⟩
  | false => exact iteF ⟨ι1, env, M1, hs.up e1, hm1, h1⟩
theorem ds_while (hp : PassesOwn (model X.prog X.w) X.A X.env X.xe) (hc : PT X c (tT X.K ca W ft)) (hb : PSs X b (tS X.K ca W gb)) : PS X (.While c b [] pos) (tS X.K ca W fun env M => whileN ft gb fuel env M) := by
  refine (ps_while hp hc hb).weak fun D σ H ⟨ι, env, M, hs, hm, h⟩ => ?_
  refine ⟨fun n σ H => ∃ ι env M, RS X.K H ι σ env ∧ RM X.K H ι M ∧ postS X.K ca W D H ι (whileN ft gb n env M), ⟨fuel, ι, env, M, hs, hm, h⟩, ?_⟩
  rintro n σ1 H1 ⟨ι1, env1, M1, hs1, hm1, h1⟩
  cases n with
  | zero => exact h1.elim
  | succ n =>
    unfold whileN at h1
    have h2 : post X.K ca W σ1 H1 ι1 (ft env1 M1) fun k M' H' ι' => postS X.K ca W D H' ι' (match k with
        | true => (match gb env1 M' with
          | .ok .next env' M' => whileN ft gb n env' M'
          | .ok .cont env' M' => whileN ft gb n env' M'
          | .ok .brk env' M' => .ok .next env' M'
          | .ok (.ret v) env' M' => .ok (.ret v) env' M'
          | .exc x env' M' => .exc x env' M'
          | .bad => .bad)
        | false => .ok .next env1 M') := by
      generalize ft env1 M1 = r at h1 ⊢
      cases r with
      | ok k M' =>
        cases k with
        | true => exact fun H' ι' e' hm' => postS_up h1 e'
        | false => exact fun H' ι' e' hm' => postS_up h1 e'
      | exc x M' => exact fun H' ι' c d e' hm' rx => h1 H' ι' σ1 c d e' hm' rx (hs1.up e')
      | bad => exact h1
    refine ⟨ι1, env1, M1, hs1, hm1, post_imp h2 fun k M2 H2 ι2 e2 hm2 h3 => ?_⟩
    cases k with
    | false => exact iteF (postS_ok h3 hm2 σ1 (hs1.up e2))
    | true =>
      refine iteT ⟨fun σ' H' => ∃ ι env M, RS X.K H' ι σ' env ∧ RM X.K H' ι M ∧ postS X.K ca W D H' ι (whileN ft gb n env M), fun σ' H' q => ⟨n, Nat.lt_succ_self n, q⟩, ι2, env1, M2, hs1.up e2, hm2, ?_⟩
      simp only at h3
      generalize gb env1 M2 = r at h3 ⊢
      cases r with
      | ok f env' M' =>
        cases f with
        | next => exact fun H' ι' e' hm' σ' hs' => ⟨ι', env', M', hs', hm', postS_up h3 e'⟩
        | cont => exact fun H' ι' e' hm' σ' hs' => ⟨ι', env', M', hs', hm', postS_up h3 e'⟩
        | brk => exact fun H' ι' e' hm' σ' hs' => h3 H' ι' e' hm' σ' hs'
        | ret d => exact h3
      | exc x env' M' => exact h3
      | bad => exact h3
/-- a turn's end in a for -/
theorem for_end {K : Fr} {D : Ends} {H : Hp} {ι : List Addr} {Nx : L2.St → Hp → Prop} {r : SR} {rest : Py.Env → Mem → SR} (h : postS K ca W D H ι (match r with
      | .ok .next env' M' => rest env' M'
      | .ok .cont env' M' => rest env' M'
      | .ok .brk env' M' => .ok .next env' M'
      | .ok (.ret v) env' M' => .ok (.ret v) env' M'
      | .exc x env' M' => .exc x env' M'
      | .bad => .bad)) (hN : ∀ H' ι' σ' env' M', Ext H ι H' ι' → RS K H' ι' σ' env' → RM K H' ι' M' → postS K ca W D H' ι' (rest env' M') → Nx σ' H') : postS K ca W { D with nx := Nx, ct := Nx, bk := D.nx } H ι r := by
  cases r with
  | ok f env' M' =>
    cases f with
    | next => exact fun H' ι' e' hm' σ' hs' => hN H' ι' σ' env' M' e' hs' hm' (postS_up h e')
    | cont => exact fun H' ι' e' hm' σ' hs' => hN H' ι' σ' env' M' e' hs' hm' (postS_up h e')
    | brk => exact fun H' ι' e' hm' σ' hs' => h H' ι' e' hm' σ' hs'
    | ret d => exact h
  | exc x env' M' => exact h
  | bad => exact h
def forBody (tg : Tg) (gb : Py.Env → Mem → SR) : D → Py.Env → Mem → SR := fun d env M => match bindTg tg d env with
  | some env' => gb env' M
  | none => .bad
theorem ds_for {tg : Tg} {t i : Expr} (hp : PassesOwn (model X.prog X.w) X.A X.env X.xe) (hc : X.calm = true) (hi : PI X t i (tI X.K ca W fi)) (hg : PG X t (tG X.K tg)) (hb : PSs X b (tS X.K ca W gb)) (hs : ∀ x, foldedSetIterable i X.env x = pure x) :
    PS X (.For t i b [] pos) (tS X.K ca W fun env M => Res.st (fi env M) env fun wk M => match wk with
      | .seq xs => forSeq (forBody tg gb) xs env M
      | .live n => forLive (forBody tg gb) n (lenAt M n) 0 env M) := by
  refine (ps_for hp hc hi hg hb hs).weak fun D σ H ⟨ι, env, M, hs, hm, h⟩ => ?_
  refine ⟨ι, env, M, hs, hm, post_imp (postS_st hs h) fun wk M1 H1 ι1 e1 hm1 h1 J rw => ?_⟩
  -- one turn
  have turn : ∀ {H' : Hp} {ι' : List Addr} {σ' : L2.St} {env' : Py.Env} {M' : Mem} {d : Py.D} {x : V} {Nx : L2.St → Hp → Prop} {rest : Py.Env → Mem → SR}, RS X.K H' ι' σ' env' → RM X.K H' ι' M' → RV X.K H' ι' d x →
      postS X.K ca W D H' ι' (match forBody tg gb d env' M' with
        | .ok .next env' M' => rest env' M'
        | .ok .cont env' M' => rest env' M'
        | .ok .brk env' M' => .ok .next env' M'
        | .ok (.ret v) env' M' => .ok (.ret v) env' M'
        | .exc x env' M' => .exc x env' M'
        | .bad => .bad) → (∀ H'' ι'' σ'' env'' M'', Ext H' ι' H'' ι'' → RS X.K H'' ι'' σ'' env'' → RM X.K H'' ι'' M'' → postS X.K ca W D H'' ι'' (rest env'' M'') → Nx σ'' H'') →
      tG X.K tg x σ' H' fun σ2 H2 => tS X.K ca W gb { D with nx := Nx, ct := Nx, bk := D.nx } σ2 H2 := fun {H' ι' σ' env' M' d x Nx rest} rs rm rv p hN => by
    unfold forBody at p
    cases hb : bindTg tg d env' with
    | none => rw [hb] at p; exact p.elim
    | some env2 =>
      rw [hb] at p
      exact ⟨ι', env', d, env2, rs, rv, hb, fun σ2 hs2 _ => ⟨ι', env2, M', hs2, rm, for_end p hN⟩⟩
  cases wk with
  | seq ds =>
    have wlk := walk_of rw
    refine ⟨fun i m σ' H' => m = ds.length - i ∧ i ≤ ds.length ∧ ∃ ι' env' M', Ext H1 ι1 H' ι' ∧ RS X.K H' ι' σ' env' ∧ RM X.K H' ι' M' ∧ postS X.K ca W D H' ι' (forSeq (forBody tg gb) (ds.drop i) env' M'), ⟨ds.length, rfl, Nat.zero_le _, ι1, env, M1, Ext.refl _ _, hs.up e1, hm1, h1⟩, ?_⟩
    rintro i m σ' H' ⟨rfl, hi, ι', env', M', e', hs', hm', p⟩
    by_cases hlt : i < ds.length
    · have hd : ds[i]? = some ds[i] := List.getElem?_eq_getElem hlt
      obtain ⟨go, yl⟩ := wlk.go i ds[i] H' ι' e' hd
      rw [List.drop_eq_getElem_cons hlt] at p
      refine .inr ⟨go, fun σ'' H'' => i + 1 ≤ ds.length ∧ ∃ ι'' env'' M'', Ext H1 ι1 H'' ι'' ∧ RS X.K H'' ι'' σ'' env'' ∧ RM X.K H'' ι'' M'' ∧ postS X.K ca W D H'' ι'' (forSeq (forBody tg gb) (ds.drop (i + 1)) env'' M''), fun σ'' H'' ⟨hl, q⟩ => ⟨ds.length - (i + 1), by omega, rfl, hl, q⟩, fun x H2 hy => ?_⟩
      obtain ⟨ey, my, ry⟩ := yl x H2 hy
      exact turn (rest := fun env'' M'' => forSeq (forBody tg gb) (ds.drop (i + 1)) env'' M'') (hs'.up ey) (my _ hm') ry (postS_up p ey) fun H'' ι'' σ'' env'' M'' ee hs'' hm'' pp => ⟨by omega, ι'', env'', M'', (e'.trans ey).trans ee, hs'', hm'', pp⟩
    · have hi' : i = ds.length := by omega
      subst hi'
      rw [List.drop_length] at p
      exact .inl ⟨wlk.stop H' ι' e', postS_ok p hm' σ' hs'⟩
  | live n =>
    cases rw with | live ha =>
    rename_i a
    refine ⟨fun i m σ' H' => ∃ ι' env' M', Ext H1 ι1 H' ι' ∧ RS X.K H' ι' σ' env' ∧ RM X.K H' ι' M' ∧ postS X.K ca W D H' ι' (forLive (forBody tg gb) n m i env' M'), ⟨lenAt M1 n, ι1, env, M1, Ext.refl _ _, hs.up e1, hm1, h1⟩, ?_⟩
    rintro i m σ' H' ⟨ι', env', M', e', hs', hm', p⟩
    have hga := pre_get ha e'.pre
    cases m with
    | zero =>
      unfold forLive at p
      split at p
      · rename_i xs hx
        split at p
        · rename_i hl
          obtain ⟨b, o, g1, g2, vs, rfl, g3⟩ := hm'.at_ n _ hx
          rw [hga] at g1
          cases g1
          exact .inl ⟨⟨vs, SqL.of g2, by rw [← g3.length]; exact hl⟩, postS_ok p hm' σ' hs'⟩
        · exact p.elim
      · exact p.elim
    | succ m =>
      unfold forLive at p
      split at p
      · rename_i xs hx
        split at p
        · rename_i d hd
          obtain ⟨b, o, g1, g2, vs, rfl, g3⟩ := hm'.at_ n _ hx
          rw [hga] at g1
          cases g1
          obtain ⟨v, hv, rv⟩ := g3.get hd
          refine .inr ⟨⟨vs, v, SqL.of g2, hv⟩, fun σ'' H'' => ∃ ι'' env'' M'', Ext H1 ι1 H'' ι'' ∧ RS X.K H'' ι'' σ'' env'' ∧ RM X.K H'' ι'' M'' ∧ postS X.K ca W D H'' ι'' (forLive (forBody tg gb) n m (i + 1) env'' M''), fun σ'' H'' q => ⟨m, by omega, q⟩, fun x H2 hy => ?_⟩
          obtain ⟨rfl, hy⟩ := hy
          have : v = x := Option.some.inj (hv.symm.trans (hy _ (SqL.of g2)))
          subst this
          exact turn (rest := fun env'' M'' => forLive (forBody tg gb) n m (i + 1) env'' M'') hs' hm' rv p fun H'' ι'' σ'' env'' M'' ee hs'' hm'' pp => ⟨ι'', env'', M'', e'.trans ee, hs'', hm'', pp⟩
        · exact p.elim
      · exact p.elim
end
end Py

set_option Elab.async false
set_option autoImplicit false
set_option linter.all false
set_option maxRecDepth 100000
set_option maxHeartbeats 8000000
/-! E13: a def's text does what its IR says; all defs at every level. -/
namespace Py
open PySem PySem.Spec PyProof.Rows L2
section
variable {X : Cx} {ca : Nat → Addr × List Str} {W : WX} {a b : Expr} {pos : Pos} {fs : Py.Env → Mem → Res (List Py.D)}
theorem swapped_two {x y : Str} {px py pt pt2 : Pos} {kt k2 : Nat} (hk : X.env.scope.kind = .function) (hx : X.env.scope.names.lookup x = some .local) (hy : X.env.scope.names.lookup y = some .local) (hne : x ≠ y) (hl : (px.line == py.line) = true)
    (hs : plainX a = true ∧ plainX b = true) (h1 : [a, b].all (foldedForSure 8) = false) (h2 : [a, b].all (constantsAlone 8) = false) :
    swappedStores [.Tuple [.Name x px, .Name y py] kt pt] (.Tuple [a, b] k2 pt2) X.env = pure (some [x, y]) := by
  have kx : X.env.kindOf x = some .local := hx
  have ky : X.env.kindOf y = some .local := hy
  have hb : X.env.blockKind = .function := by unfold PySem.Env.blockKind; rw [hk]; rfl
  have hst : ([a, b].any fun | .Starred .. => true | _ => false) = false := by
    obtain ⟨p1, p2⟩ := hs
    cases a <;> first | (cases p1; done) | (cases b <;> first | rfl | (cases p2; done))
  have e : (py.line == px.line) = true := by
    have : px.line = py.line := eq_of_beq hl
    rw [this]; exact beq_self_eq_true _
  have e0 : (px.line == px.line) = true := beq_self_eq_true _
  have n1 : (y == x) = false := beq_eq_false_iff_ne.mpr (Ne.symm hne)
  have n2 : (x == y) = false := beq_eq_false_iff_ne.mpr hne
  unfold swappedStores
  have e' : py.line = px.line := eq_of_beq e
  simp [hb, kx, ky, e, e0, h1, h2, n1, n2, List.eraseDups, Expr.pos]
  refine (if_neg ?hn).trans ?_
  case hn =>
    intro hpos
    obtain ⟨p1, p2⟩ := hs
    rcases hpos with z | z
    · cases a <;> first | (cases p1; done) | cases z
    · cases b <;> first | (cases p2; done) | cases z
  simp [ky, e', List.filterMap_cons, List.eraseDupsBy, List.eraseDupsBy.loop, n1, n2, hne, Ne.symm hne]
theorem ds_par {i j : Nat} {x y : Str} {px py pt pt2 : Pos} {kt k2 : Nat} (hc : X.calm = true) (hk : X.env.scope.kind = .function) (hN : X.N.Nodup) (hi : X.N[i]? = some x) (hj : X.N[j]? = some y) (hij : i ≠ j) (hx : X.env.scope.names.lookup x = some .local) (hy : X.env.scope.names.lookup y = some .local)
    (ha : PA X [a, b] (tA X.K ca W fs)) (hl : (px.line == py.line) = true) (hs : plainX a = true ∧ plainX b = true) (h1 : [a, b].all (foldedForSure 8) = false) (h2 : [a, b].all (constantsAlone 8) = false) :
    PS X (.Assign [.Tuple [.Name x px, .Name y py] kt pt] (.Tuple [a, b] k2 pt2) pos) (tS X.K ca W fun env M => Res.st ((fs env M).bind fun ds M => if ds.length ≤ sizeLine then .ok (.tup ds) M else .bad) env fun d M => match bindTg (.tup [.name i, .name j]) d env with
      | some env' => .ok .next env' M
      | none => .bad) := by
  have hne : x ≠ y := by
    rintro rfl
    exact hij (nodup_ix hN hi hj)
  refine (ps_par (pos := pos) hc hN hi hj hij hx hy ha (swapped_two hk hx hy hne hl hs h1 h2)).weak fun D σ H ⟨ι, env, M, hs, hm, h⟩ => ?_
  refine ⟨ι, env, M, hs, hm, post_imp (post_bind (postS_st hs h)) fun ds M1 H1 ι1 e1 hm1 h1 vs rs => ?_⟩
  split at h1
  · have h2 := post_ok h1 hm1
    match ds, rs, h2 with
    | [d1, d2], rs, h2 =>
      obtain ⟨v, w, rfl, r1, r2⟩ := rs.two
      have h2 : postS X.K ca W D H1 ι1 (.ok .next ((env.set i (some d1)).set j (some d2)) M1) := h2
      exact ⟨v, w, rfl, postS_ok h2 hm1 _ (((hs.up e1).set r1).set r2)⟩
    | [], _, h2 => exact h2.elim
    | [_], _, h2 => exact h2.elim
    | _ :: _ :: _ :: _, _, h2 => exact h2.elim
  · exact h1.elim
end
structure GoodS (m : Md) (X : Cx) (N : List Str) (sc : Scope) (k : Nat) (W : WX) : Prop where
  g : Good m X N sc k W
  fn : ∀ x, X.fn x = true
  po : PassesOwn (model X.prog X.w) X.A X.env X.xe
  kd : sc.kind = .function
  st : X.stack = X.env :: X.outer
  fr : X.env.frame = some X.env.locals
section
variable {m : Md} {X : Cx} {N : List Str} {sc : Scope} {k : Nat} {W : WX}
theorem swaps_lc {elt : Expr} {gs : List Comprehension} {scope : Scope} {p py : Pos} {y : Str} {l : Nat} {env : PySem.Env} (hk : env.scope.kind = .function) (h : swB env.scope y py scope p = false) : swapsWith (.ListComp elt gs scope p) (some (.Name y py)) l env = pure false := by
  have hb : env.blockKind = .function := by unfold PySem.Env.blockKind; rw [hk]; rfl
  unfold swB isLocal at h
  unfold swapsWith
  have ek : env.kindOf y = env.scope.names.lookup y := rfl
  simp only [hb, ek, Expr.pos]
  generalize env.scope.names.lookup y = o at h ⊢
  cases o with
  | none => rfl
  | some kk => cases kk <;> first | rfl | exact congrArg pure (show (true && true && (py.line == p.line) && !(scope.names.any fun (n, k) => n == y && (k == .local || k == .cell))) = false from by simpa only [Bool.true_and] using h)
theorem okSet (G : GoodS m X N sc k W) (tg : Tg) (e : E) (t ex : Expr) (pos : Pos) (h : ckSet m.nm N sc tg e t ex = true) : PS X (.Assign [t] ex pos) (tS X.K m.ca W (evS (m.sig k) (.set tg e))) := by
  unfold ckSet at h
  rw [Bool.and_eq_true] at h
  obtain ⟨ht, h⟩ := h
  have hg : PG X t (tG X.K tg) := dg_tg G.g.hN G.g.nd G.g.hsc G.g.calm tg t ht fun i _ x _ => .inl (G.fn x)
  have plain : ∀ (e : E), ckE m.nm N e sc ex = true → noLc ex = true → (isTup ex = false ∨ ∃ i, tg = .name i) → PS X (.Assign [t] ex pos) (tS X.K m.ca W (evS (m.sig k) (.set tg e))) := fun e he hl hor => by
    refine ds_asg (okE e G.g ex he) hg (swaps_of hl _ _ _) ?_ (dg_cons (X := X) tg t ht (es := []))
    rcases hor with z | ⟨i, rfl⟩
    · cases ex <;> first | (cases t <;> rfl) | cases z
    · unfold ckTg at ht
      split at ht
      · rename_i x hx
        obtain ⟨p, rfl⟩ := asName_of hx
        cases ex <;> rfl
      · cases ht
  split at h
  · rename_i i own ctg it c el
    -- name = [..]
    have ht2 := ht
    unfold ckTg at ht2
    split at ht2
    · rename_i y hy
      obtain ⟨py, rfl⟩ := asName_of hy
      rw [Bool.and_eq_true] at ht2
      have hyi : N[i]? = some y := of_decide_eq_true ht2.1
      have he := okE _ G.g ex h
      unfold ckE at h
      split at h
      · rename_i elx tx ix ifs scope hx
        obtain ⟨p, rfl⟩ := asLc_of hx
        cases hsw : swB sc y py scope p with
        | false => exact ds_asg he hg (swaps_lc (l := pos.line) (by rw [G.g.hsc]; exact G.kd) (by rw [G.g.hsc]; exact hsw)) rfl rfl
        | true =>
          simp only [Bool.and_eq_true, decide_eq_true_eq] at h
          obtain ⟨⟨⟨⟨⟨⟨⟨⟨h1, h2⟩, h3⟩, h4⟩, h5⟩, h6⟩, h7⟩, h8⟩, h9⟩ := h
          unfold swB at hsw
          simp only [Bool.and_eq_true, Bool.not_eq_true'] at hsw
          have hloc : X.env.scope.names.lookup y = some .local := by rw [G.g.hsc]; exact isLocal_of hsw.1.1
          refine ds_setLc h9 G.g.calm (G.g.hN ▸ G.g.nd) (by rw [G.g.hN]; exact hyi) hloc (sw_true (by rw [G.g.hsc]; exact G.kd) hloc hsw.1.2 hsw.2) (okIt it (tg := tx) G.g ix h2) (blkOk_by (by rw [G.g.hN, G.g.hsc]; exact h1)) (fun s H C cl fp => ?_)
            (fun s H C cl fp => okOT c (G.g.blk scope s H C cl fp) ifs h7) (fun s H C cl fp => okE el (G.g.blk scope s H C cl fp) elx h8) (set_of h3 X.env) (mem_all h5)
          have G' := G.g.blk scope s H C cl fp
          refine dg_tg G'.hN G'.nd G'.hsc G'.calm ctg tx h4 fun j hj x hx => ?_
          have h10 := List.all_eq_true.mp h6 j hj
          rw [hx] at h10
          have h10 : ((scope.names.lookup x == some .cell) || isLocal (relS scope sc) x) = true := h10
          rw [Bool.or_eq_true] at h10
          rcases h10 with z | z
          · exact .inl z
          · refine .inr ?_
            rw [G'.hsc]
            exact isLocal_of z
      · cases h
    · cases ht2
  · rw [Bool.and_eq_true] at h
    exact plain _ h.1 h.2 (.inr ⟨_, rfl⟩)
  · rename_i i j ea eb
    split at h
    · rename_i t1 t2 x y hx1 hx2
      obtain ⟨kt, pt, rfl⟩ := asTup_of hx1
      obtain ⟨k2, pt2, rfl⟩ := asTup_of hx2
      split at h
      · rename_i n1 n2 p1 p2 e1 e2 e3 e4
        obtain ⟨q1, rfl⟩ := asName_of e1
        obtain ⟨q2, rfl⟩ := asName_of e2
        cases e3
        cases e4
        simp only [Bool.and_eq_true, decide_eq_true_eq, Bool.not_eq_true'] at h
        obtain ⟨⟨⟨⟨⟨⟨⟨⟨⟨h1, h2⟩, h3⟩, h4⟩, h5⟩, h6⟩, h7⟩, h8⟩, h9⟩, h10⟩ := h
        have ht3 : (decide (N[i]? = some n1) && locB sc n1 && ((decide (N[j]? = some n2) && locB sc n2) && true)) = true := ht
        simp only [Bool.and_eq_true, decide_eq_true_eq] at ht3
        exact ds_par G.g.calm (by rw [G.g.hsc]; exact G.kd) (G.g.hN ▸ G.g.nd) (by rw [G.g.hN]; exact ht3.1.1) (by rw [G.g.hN]; exact ht3.2.1.1) h3 (by rw [G.g.hsc]; exact isLocal_of h1) (by rw [G.g.hsc]; exact isLocal_of h2)
          (da_cons (okE ea G.g x h5) (da_cons (okE eb G.g y h6) da_nil h8) h7) h4 ⟨h7, h8⟩ h9 h10
      · cases h
    · cases h
  · simp only [Bool.and_eq_true, Bool.not_eq_true'] at h
    exact plain _ h.1.1 h.1.2 (.inl h.2)
mutual
theorem okS : ∀ (s : S) {X : Cx} {W : WX} (G : GoodS m X N sc k W) (st : Stmt), ckS m.nm N s sc st = true → PS X st (tS X.K m.ca W (evS (m.sig k) s))
  | .set tg e, X, W, G, st, h => by
    unfold ckS at h
    split at h
    · rename_i t ex l hx
      obtain ⟨p, rfl, _⟩ := asAssign_of hx
      exact okSet G tg e t ex p h
    · cases h
  | .setix o i e, X, W, G, st, h => by
    unfold ckS at h
    split at h
    · rename_i t ex l hx
      obtain ⟨p, rfl, _⟩ := asAssign_of hx
      split at h
      · rename_i x y hy
        obtain ⟨p2, rfl⟩ := asSub_of hy
        simp only [Bool.and_eq_true] at h
        obtain ⟨⟨⟨⟨h1, h2⟩, h3⟩, h4⟩, h5⟩ := h
        exact ds_setix G.g.room (okE o G.g x h1) (okE i G.g y h2) (okE e G.g ex h3) h4 h5
      · cases h
    · cases h
  | .aug i o e, X, W, G, st, h => by
    unfold ckS at h
    split at h
    · rename_i x op ex hx
      obtain ⟨p, q, rfl⟩ := asAug_of hx
      simp only [Bool.and_eq_true, decide_eq_true_eq, Bool.or_eq_true] at h
      obtain ⟨⟨⟨⟨h1, h2⟩, rfl⟩, h3⟩, h4⟩ := h
      exact ds_aug o h3 (G.g.hN ▸ G.g.nd) (by rw [G.g.hN]; exact h1) (by rw [G.g.hsc]; exact locB_of h2) (G.fn x) (okE e G.g ex h4)
    · cases h
  | .expr e, X, W, G, st, h => by
    unfold ckS at h
    split at h
    · rename_i ex hx
      obtain ⟨p, rfl⟩ := asExpr_of hx
      rw [Bool.and_eq_true] at h
      exact ds_expr (okE e G.g ex h.1) h.2
    · cases h
  | .ret e, X, W, G, st, h => by
    unfold ckS at h
    split at h
    · rename_i ex hx
      obtain ⟨p, rfl⟩ := asRet_of hx
      exact ds_ret (okE e G.g ex h)
    · cases h
  | .ret0, X, W, G, st, h => by
    unfold ckS at h
    split at h
    · rename_i hx
      obtain ⟨p, rfl⟩ := asRet_of hx
      exact ds_ret0
    · cases h
  | .ifS c a b, X, W, G, st, h => by
    unfold ckS at h
    split at h
    · rename_i x y z hx
      obtain ⟨p, rfl⟩ := asIfS_of hx
      simp only [Bool.and_eq_true] at h
      exact ds_if (okT c G.g x h.1.1).pt (okSs a G y h.1.2) (okSs b G z h.2)
    · cases h
  | .forS tg it b, X, W, G, st, h => by
    unfold ckS at h
    split at h
    · rename_i t i y hx
      obtain ⟨p, rfl⟩ := asFor_of hx
      simp only [Bool.and_eq_true] at h
      obtain ⟨⟨⟨h1, h2⟩, h3⟩, h4⟩ := h
      exact ds_for G.po G.g.calm (okIt it (tg := t) G.g i h2) (dg_tg G.g.hN G.g.nd G.g.hsc G.g.calm tg t h1 fun i _ x _ => .inl (G.fn x)) (okSs b G y h4) (set_of h3 X.env)
    · cases h
  | .whileS c b, X, W, G, st, h => by
    unfold ckS at h
    split at h
    · rename_i x y hx
      obtain ⟨p, rfl⟩ := asWhile_of hx
      rw [Bool.and_eq_true] at h
      exact ds_while G.po (okT c G.g x h.1).pt (okSs b G y h.2)
    · cases h
  | .brk, X, W, G, st, h => by
    obtain ⟨p, rfl⟩ := isBrk_of (show isBrk st = true from h)
    exact ds_brk
  | .cont, X, W, G, st, h => by
    obtain ⟨p, rfl⟩ := isCont_of (show isCont st = true from h)
    exact ds_cont
  | .tidy s, X, W, G, st, h => ds_tidy (okS s G st h)
  | .lock i s, X, W, G, st, h => ds_lock (okS s G st h)
  | .stuck, X, W, G, st, h => ⟨fun pins s σ H D I ⟨ι, env, M, hs, hm, q⟩ => q.elim⟩
  | .raise0 c, X, W, G, st, h => by
    unfold ckS at h
    split at h
    · rename_i x a I hx hc
      obtain ⟨p, q, r, rfl⟩ := asRaise_of hx
      simp only [Bool.and_eq_true, decide_eq_true_eq] at h
      obtain ⟨⟨⟨h1, h2⟩, h3⟩, h4⟩ := h
      obtain ⟨msg, hm⟩ := Option.isSome_iff_exists.mp h4
      obtain ⟨j, p2, rfl⟩ := asStr_of hm
      obtain ⟨g1, g2⟩ := G.g.glx h2
      exact ds_raise0 G.g.calm G.g.tk (G.g.cl c I hc).1 (List.isEmpty_iff.mp h3) h1 g1 g2
    · cases h
  | .raise c a b, X, W, G, st, h => by
    unfold ckS at h
    split at h
    · rename_i x y z I hx hc
      obtain ⟨p, q, r, rfl⟩ := asRaise_of hx
      simp only [Bool.and_eq_true, decide_eq_true_eq] at h
      obtain ⟨⟨⟨⟨⟨⟨h1, h2⟩, h3⟩, h4⟩, h5⟩, h6⟩, h7⟩ := h
      obtain ⟨g1, g2⟩ := G.g.glx h2
      obtain ⟨c1, c2⟩ := G.g.cl c I hc
      exact ds_raise G.g.calm G.g.tk G.g.room c1 h3 c2 h1 g1 g2 (okE a G.g y h4) (okE b G.g z h5) h6 h7
    · cases h
  | .tryAs b c os i x, X, W, G, st, h => by
    unfold ckS at h
    split at h
    · rename_i y u n ex I hx hc
      obtain ⟨p, q, r, t, rfl⟩ := asTryAs_of hx
      simp only [Bool.and_eq_true, decide_eq_true_eq] at h
      obtain ⟨⟨⟨⟨⟨⟨⟨h1, h2⟩, h3⟩, h4⟩, h5⟩, h6⟩, h7⟩, h8⟩ := h
      obtain ⟨g1, g2⟩ := G.g.glx h2
      obtain ⟨c1, c2⟩ := G.g.cl c I hc
      obtain ⟨v1, v2, v3⟩ := visB_of h5
      have hl : X.env.kindOf n = some .local := by
        show X.env.scope.names.lookup n = _
        rw [G.g.hsc]
        exact isLocal_of h4
      refine ds_tryAs G.st G.fr (G.g.hN ▸ G.g.nd) (by rw [G.g.hN]; exact h3) hl (by rw [G.g.hsc]; exact v1) v2 v3 g1 g2 G.g.tk c1 h1 c2 ?_ (fun o ho => ?_) h7 (fun W' pn xe' tk po => ?_)
      · have := G.g.ex c c I I hc hc
        rw [this, subC, decide_eq_true rfl]; rfl
      · have h9 := List.all_eq_true.mp h6 o ho
        rw [Bool.and_eq_true, Bool.not_eq_true'] at h9
        obtain ⟨I2, hI2⟩ := Option.isSome_iff_exists.mp h9.1
        rw [G.g.ex o c I2 I hI2 hc, h9.2]
      · exact okSs b (X := X.tr pn xe') ⟨⟨G.g.hN, G.g.nd, G.g.hsc, G.g.calm, G.g.room, G.g.fn, G.g.hf, G.g.gl, G.g.bl, tk, G.g.cl, G.g.ex⟩, G.fn, po, G.kd, G.st, G.fr⟩ y h8
    · cases h
  | .pass, X, W, G, st, h => by
    obtain ⟨p, rfl⟩ := isPass_of (show isPass st = true from h)
    exact ds_pass
theorem okSs : ∀ (ss : Ss) {X : Cx} {W : WX} (G : GoodS m X N sc k W) (sts : List Stmt), ckSs m.nm N ss sc sts = true → PSs X sts (tS X.K m.ca W (evSs (m.sig k) ss))
  | .nil, X, W, G, sts, h => by
    cases sts with
    | nil => exact dss_nil
    | cons => cases h
  | .cons s ss, X, W, G, sts, h => by
    cases sts with
    | nil => cases h
    | cons st sts =>
      have h : (ckS m.nm N s sc st && ckSs m.nm N ss sc sts) = true := h
      rw [Bool.and_eq_true] at h
      exact dss_cons (okS s G st h.1) (okSs ss G sts h.2)
end
end
end Py

set_option Elab.async false
set_option autoImplicit false
set_option linter.all false
set_option maxRecDepth 100000
set_option maxHeartbeats 8000000
/-! E14: the defs, all of them, at every level. -/
namespace Py
open PySem PySem.Spec PyProof.Rows L2
/-- what the text says of def f -/
structure FnT (m : Md) (N : Nat → List Str) (st : Nat → Stmt) (f : Nat) (F : Fn) : Prop where
  nn : (N f).length = F.nn
  len : (m.ps f).length = F.np
  sc : FnScope (N f) (m.ps f) (defScope (st f))
  ck : ckSs m.nm (N f) F.body (defScope (st f)) (defBody (st f)) = true
/-- what the heap says of def f -/
structure FnH (m : Md) (K : Fr) (mg : Str → Option Value) (st : Nat → Stmt) (f : Nat) : Prop where
  d : FunD K (m.nm.fn f) (m.nm.fn f) (defArgs (st f)) (defBody (st f)) (defScope (st f)) [] [] (m.fa f) (m.fd f)
  mg : mg (m.nm.fn f) = some (.ref (m.fa f))
  b : Binds K (m.fd f) (m.ps f) []
section
variable {m : Md} {N : Nat → List Str} {st : Nat → Stmt} {P : Program} {w : World} {K : Fr} {mg : Str → Option Value} {base : Heap}
theorem spD_len {np : Nat} {r : List D → Mem → Res D} {ca : Nat → Addr × List Str} {vs : List V} {H : Hp} {Q : VK} {E : XK} (h : spD K ca np r vs H Q E) : vs.length = np := by
  obtain ⟨ι, ds, M, _, r1, r2, _⟩ := h
  rw [r1.length] at r2
  exact r2
theorem postS_body {H : Hp} {ι : List Addr} {Q : VK} {E : XK} {r : SR} (h : post K m.ca (fun c d _ H' => E c d H') [] H ι (fnRes r) (CD K Q)) :
    postS K m.ca (fun c d _ H' => E c d H') { nx := fun _ H' => Q .non H', rt := Q } H ι r := by
  cases r with
  | ok f env M' =>
    cases f with
    | next => exact fun H' ι' e hm σ' hs => h H' ι' e hm _ .non
    | ret d => exact fun H' ι' e hm v hv => h H' ι' e hm v hv
    | brk => exact h.elim
    | cont => exact h.elim
  | exc x env M' => exact fun H' ι' σ' c d e hm rx hs => h H' ι' c d e hm rx
  | bad => exact h.elim
theorem fnOk (hT : ∀ f F, m.p.fn f = some F → FnT m N st f F) (hH : ∀ f F, m.p.fn f = some F → FnH m K mg st f) (hf : ∀ f, m.nm.hf f = true → ∃ F, m.p.fn f = some F)
    (gl : ∀ g d, m.p.gl g = some d → ∃ u v, mg (m.nm.gl g) = some u ∧ RelV v u ∧ ∀ H ι, RV K H ι d v) (bl : ∀ x ∈ m.nm.bs, mg x = none)
    (cl : ∀ c I, m.nm.cl c = some I → ClsOk P K mg (m.ca c).1 I ∧ (m.ca c).2 = I.fs) (ex : ∀ c c' I I', m.nm.cl c = some I → m.nm.cl c' = some I' → PySem.W.exmOne K (.ref (m.ca c).1) (.ref (m.ca c').1) = some (subC c c')) :
    ∀ (k f : Nat) (F : Fn), m.p.fn f = some F → FnOk P w K mg base (L2.CX P w) k (m.fa f) (m.fd f) (m.ps f) (spD K m.ca F.np (run m.p k f))
  | 0, f, F, hF => ⟨fun vs H Q E h => by rw [(hT f F hF).len]; exact spD_len h, fun A outer s H args us vs Q E hr he hb hv ⟨ι, ds, M, _, _, _, q⟩ => q.elim⟩
  | k + 1, f, F, hF => by
    have T := hT f F hF
    refine (hH f F hF).d.ok T.sc (fun vs H Q E h => by rw [T.len]; exact spD_len h) fun cdv A outer s H vs Q E hr h => ?_
    obtain ⟨ι, ds, M, hm, hv, hl, q⟩ := h
    have G : GoodS m (cxOf (L2.CX P w) P w K mg base (N f) (m.nm.fn f) (defScope (st f)) (m.fa f) cdv A outer s H E) (N f) (defScope (st f)) k (fun c d _ H' => E c d H') :=
      ⟨⟨rfl, T.sc.nd, rfl, rfl, hr, fun g G' hG => ⟨fnOk hT hH hf gl bl cl ex k g G' hG, (hH g G' hG).mg, (hH g G' hG).d.kp, (hH g G' hG).b⟩, hf, gl, bl, takes_of rfl rfl rfl rfl, cl, ex⟩, fun _ => rfl, passes_of rfl, T.sc.kind, rfl, rfl⟩
    refine ⟨_, okSs F.body G (defBody (st f)) T.ck, ι, _, M, RS.start hv (N f), hm, ?_⟩
    apply postS_body
    have e : run m.p (k + 1) f ds M = runFn ⟨run m.p k, m.p.gl⟩ F ds M := by
      show (match m.p.fn f with | some fn => runFn ⟨run m.p k, m.p.gl⟩ fn ds M | none => .bad) = _
      rw [hF]
    rw [e] at q
    unfold runFn at q
    rw [if_pos hl] at q
    replace q := post_tidy hm q
    rw [T.nn]
    exact q
end
end Py

set_option Elab.async false
set_option autoImplicit false
set_option linter.all false
set_option maxRecDepth 100000
set_option maxHeartbeats 8000000
/-! E15: a law's end. -/
namespace Py
open PySem PySem.Spec PyProof.Rows L2
theorem look_zip {ps : List Str} {us : List Value} : ∀ (qs : List Str), us.length = ps.length → (∀ n ∈ qs, n ∈ ps) → (qs.filter fun n => ((ps.zip us).lookup n).isNone) = [] := by
  intro qs hl hq
  rw [List.filter_eq_nil_iff]
  intro n hn
  have : n ∈ ps := hq n hn
  clear hq
  induction ps generalizing us with
  | nil => cases this
  | cons p ps ih =>
    cases us with
    | nil => cases hl
    | cons u us =>
      rw [List.zip_cons_cons, List.lookup_cons]
      split
      · simp
      · rename_i h
        refine ih (by simpa using hl) ?_
        rcases List.mem_cons.mp this with e | e
        · subst e; simp at h
        · exact e
theorem fm_congr {α β : Type} {f g : α → Option β} : ∀ {l : List α}, (∀ a ∈ l, f a = g a) → l.filterMap f = l.filterMap g
  | [], _ => rfl
  | a :: l, h => by
    rw [List.filterMap_cons, List.filterMap_cons, h a (List.mem_cons_self ..), fm_congr fun b hb => h b (List.mem_cons_of_mem _ hb)]
theorem map_zip : ∀ {ps : List Str} {us : List Value}, ps.Nodup → us.length = ps.length → (ps.filterMap fun n => ((ps.zip us).lookup n).map fun v => (n, v)) = ps.zip us
  | [], [], _, _ => rfl
  | [], _ :: _, _, h => by cases h
  | _ :: _, [], _, h => by cases h
  | p :: ps, u :: us, hn, h => by
    have hn' := List.nodup_cons.mp hn
    rw [List.zip_cons_cons, List.filterMap_cons]
    simp only [List.lookup_cons, beq_self_eq_true, Option.map_some]
    congr 1
    refine Eq.trans ?_ (map_zip hn'.2 (by simpa using h))
    apply fm_congr
    intro n hm
    have : n ≠ p := by rintro rfl; exact hn'.1 hm
    have : (n == p) = false := beq_eq_false_iff_ne.mpr this
    rw [this]
theorem binds_plain {x qual : Str} {params : Arguments} {body : List Stmt} {scope : Scope} {ps : List Str} (h1 : params.posonlyargs = []) (h2 : params.args.map (·.arg) = ps) (h3 : params.vararg = none) (h4 : params.kwonlyargs = []) (h5 : params.kwarg = none) (hn : ps.Nodup)
    (kV doc pm : Value) (an : Option Addr) (cdv ct : Value) (us : List Value) (hl : us.length = ps.length) : bindArgs (PySem.W.fnOf x qual params body scope .none kV doc pm an cdv ct) ⟨us, []⟩ = pure (ps.zip us) := by
  unfold bindArgs PySem.W.fnOf
  have e : seqItems? Value.none = (pure none : Sem (Option (Array Value))) := rfl
  simp [h1, h2, h3, h4, h5, hl, e, look_zip ps hl fun n h => h, map_zip hn hl]

/-! ### constants of the module -/
mutual
def relD (K : Fr) : D → Value → Bool
  | .non, u => (match u with | .none => true | _ => false)
  | .bl b, u => (match u with | .bool c => b == c | _ => false)
  | .int i, u => (match u with | .int j _ => decide (i = j) | _ => false)
  | .str s, u => (match u with | .str z _ => decide (z.cps.toList = s) | _ => false)
  | .tup ds, u => (match u with
    | .ref a => (match K.lookup a with
      | some ⟨.type c, _, .seq its _, _⟩ => decide (c = "tuple") && decide (its.size ≤ sizeLine) && relDs K ds its.toList
      | _ => false)
    | _ => false)
  | .rol ds, u => (match u with
    | .ref a => (match K.lookup a with
      | some ⟨.type c, none, .seq its _, _⟩ => decide (c = "list") && decide (its.size ≤ sizeLine) && relDs K ds its.toList
      | _ => false)
    | _ => false)
  | .obj _, _ => false
def relDs (K : Fr) : List D → List Value → Bool
  | [], us => us.isEmpty
  | d :: ds, us => (match us with
    | u :: us => relD K d u && relDs K ds us
    | [] => false)
end
mutual
theorem relD_ok {K : Fr} : ∀ {d : D} {u : Value}, relD K d u = true → ∃ v, RelV v u ∧ ∀ H ι, RV K H ι d v
  | .non, u, h => by
    unfold relD at h
    split at h
    · exact ⟨.non, rfl, fun _ _ => .non⟩
    · cases h
  | .bl b, u, h => by
    unfold relD at h
    split at h
    · have e := eq_of_beq h
      subst e
      exact ⟨.bl b, rfl, fun _ _ => .bl b⟩
    · cases h
  | .int i, u, h => by
    unfold relD at h
    split at h
    · rename_i j t
      have e := of_decide_eq_true h
      subst e
      exact ⟨.int i, ⟨t, rfl⟩, fun _ _ => .int i⟩
    · cases h
  | .str s, u, h => by
    unfold relD at h
    split at h
    · rename_i z t
      have e := of_decide_eq_true h
      subst e
      exact ⟨sv z.cps.toList, ⟨t, rfl⟩, fun _ _ => .str _⟩
    · cases h
  | .tup ds, u, h => by
    unfold relD at h
    split at h
    · rename_i a
      split at h
      · rename_i c od its n sl q
        simp only [Bool.and_eq_true, decide_eq_true_eq] at h
        obtain ⟨⟨rfl, h2⟩, h3⟩ := h
        obtain ⟨vs, r1, r2⟩ := relDs_ok h3
        exact ⟨.ref a, rfl, fun H ι => .tup (.inr ⟨_, its, n, q, rfl, rfl, h2, r1⟩) (r2 H ι)⟩
      · cases h
    · cases h
  | .rol ds, u, h => by
    unfold relD at h
    split at h
    · rename_i a
      split at h
      · rename_i c its n sl q
        simp only [Bool.and_eq_true, decide_eq_true_eq] at h
        obtain ⟨⟨rfl, h2⟩, h3⟩ := h
        obtain ⟨vs, r1, r2⟩ := relDs_ok h3
        exact ⟨.ref a, rfl, fun H ι => .rol (.inr ⟨_, its, n, q, rfl, rfl, rfl, h2, r1⟩) (r2 H ι)⟩
      · cases h
    · cases h
  | .obj _, _, h => by
    unfold relD at h
    cases h
theorem relDs_ok {K : Fr} : ∀ {ds : List D} {us : List Value}, relDs K ds us = true → ∃ vs, Vals vs us ∧ ∀ H ι, RVs K H ι ds vs
  | [], us, h => by
    unfold relDs at h
    have e := List.isEmpty_iff.mp h
    subst e
    exact ⟨[], .nil, fun _ _ => .nil⟩
  | d :: ds, us, h => by
    unfold relDs at h
    split at h
    · rw [Bool.and_eq_true] at h
      obtain ⟨v, r1, r2⟩ := relD_ok h.1
      obtain ⟨vs, r3, r4⟩ := relDs_ok h.2
      exact ⟨v :: vs, .cons r1 r3, fun H ι => .cons (r2 H ι) (r4 H ι)⟩
    · cases h
end

/-! ### own error classes -/
def isFnK : Scope → Bool := fun sc => match sc.kind with | .function => true | _ => false
def clsB (K : Fr) (C : Addr) : Bool := match K.lookup C with
  | some ⟨.type t, _, .cls cd, sl⟩ => (match cd.mro, sl.toList with
    | .ref C' :: bm, [_, _, _, _, some (.builtin n), _] => decide (t = "type") && decide (C' = C) && decide (n = "ValueError.__new__") && !cd.hasDel && cd.hasDict && PySem.HandSPX.refsVE bm
    | _, _ => false)
  | _ => false
theorem clsB_ok {K : Fr} {C : Addr} (h : clsB K C = true) : ∃ nm qn N bs bm sn sub ab col dd k0 k1 k2 k3 k5, K.lookup C = some (excClassObj nm qn C N bs bm true sn sub ab col dd k0 k1 k2 k3 k5 "ValueError.__new__") ∧ PySem.HandSPX.refsVE bm = true := by
  unfold clsB at h
  split at h
  · rename_i t dd cd sl hl
    split at h
    · rename_i C' bm k0 k1 k2 k3 n k5 hm hs
      simp only [Bool.and_eq_true, decide_eq_true_eq, Bool.not_eq_true'] at h
      obtain ⟨⟨⟨⟨⟨rfl, rfl⟩, rfl⟩, h4⟩, h5⟩, h6⟩ := h
      obtain ⟨nm, bs, mro, ns, qn, hd, sn, sub, ab, col, del⟩ := cd
      dsimp only at hm h4 h5
      subst hm h4 h5
      have e : sl = #[k0, k1, k2, k3, some (.builtin "ValueError.__new__"), k5] := by
        obtain ⟨l⟩ := sl
        simp only at hs
        rw [hs]
      subst e
      exact ⟨nm, qn, ns, bs, bm, sn, sub, ab, col, dd, k0, k1, k2, k3, k5, hl, h6⟩
    · cases h
  · cases h
def asArgs3 : Arguments → Option ((Str × Pos) × (Str × Pos) × (Str × Pos))
  | { posonlyargs := [], args := [⟨x, none, p⟩, ⟨y, none, q⟩, ⟨z, none, r⟩], vararg := none, kwonlyargs := [], kw_defaults := [], kwarg := none, defaults := [] } => some ((x, p), (y, q), (z, r))
  | _ => none
theorem asArgs3_of {a : Arguments} {x y z : Str} {p q r : Pos} (h : asArgs3 a = some ((x, p), (y, q), (z, r))) : a = { posonlyargs := [], args := [⟨x, none, p⟩, ⟨y, none, q⟩, ⟨z, none, r⟩], vararg := none, kwonlyargs := [], kw_defaults := [], kwarg := none, defaults := [] } := by
  unfold asArgs3 at h
  split at h
  · cases h; rfl
  · cases h
structure IniR where
  (s i e1 m1 m1' e2 m2 m2' msg : Str)
  (p0 p1 p2 p3 p4 p5 a1 a2 a3 a4 b1 b2 b3 b4 : Pos)
  kk : Nat
def asInit : List Stmt → Option IniR
  | [.Expr (.Call (.Attribute (.Call (.Name s p0) [] [] p1) i p2) [.Constant (.str msg) kk p3] [] p4) p5, .Assign [.Attribute (.Name e1 a1) m1 a2] (.Name m1' a3) a4, .Assign [.Attribute (.Name e2 b1) m2 b2] (.Name m2' b3) b4] => some ⟨s, i, e1, m1, m1', e2, m2, m2', msg, p0, p1, p2, p3, p4, p5, a1, a2, a3, a4, b1, b2, b3, b4, kk⟩
  | _ => none
theorem asInit_of {b : List Stmt} {r : IniR} (h : asInit b = some r) : b = [.Expr (.Call (.Attribute (.Call (.Name r.s r.p0) [] [] r.p1) r.i r.p2) [.Constant (.str r.msg) r.kk r.p3] [] r.p4) r.p5, .Assign [.Attribute (.Name r.e1 r.a1) r.m1 r.a2] (.Name r.m1' r.a3) r.a4, .Assign [.Attribute (.Name r.e2 r.b1) r.m2 r.b2] (.Name r.m2' r.b3) r.b4] := by
  unfold asInit at h
  split at h
  · cases h; rfl
  · cases h
def kdB (sc : Scope) (x : Str) : Option Nat := match sc.names.lookup x with
  | some .local => some 0
  | some .globalImplicit => some 1
  | some .free => some 2
  | _ => none
theorem kdB_l {sc : Scope} {x : Str} (h : kdB sc x = some 0) : sc.names.lookup x = some .local := by
  unfold kdB at h
  split at h <;> first | assumption | cases h
theorem kdB_g {sc : Scope} {x : Str} (h : kdB sc x = some 1) : sc.names.lookup x = some .globalImplicit := by
  unfold kdB at h
  split at h <;> first | assumption | cases h
theorem kdB_f {sc : Scope} {x : Str} (h : kdB sc x = some 2) : sc.names.lookup x = some .free := by
  unfold kdB at h
  split at h <;> first | assumption | cases h
def scoB (sc : Scope) (n1 n2 : Str) : Bool := isFnK sc && !sc.isCoroutine && !sc.isGenerator && decide (kdB sc "super" = some 1) && decide (kdB sc "__class__" = some 2) && decide (kdB sc "self" = some 0) && decide (kdB sc n1 = some 0) && decide (kdB sc n2 = some 0) && sc.names.all fun y => match y.2 with | .cell => false | _ => true
theorem scoB_ok {sc : Scope} {n1 n2 : Str} (h : scoB sc n1 n2 = true) : PySem.EXI.Sco sc n1 n2 := by
  unfold scoB at h
  simp only [Bool.and_eq_true, Bool.not_eq_true', decide_eq_true_eq] at h
  obtain ⟨⟨⟨⟨⟨⟨⟨⟨h1, h2⟩, h3⟩, h4⟩, h5⟩, h6⟩, h7⟩, h8⟩, h9⟩ := h
  refine ⟨?_, h2, h3, kdB_g h4, kdB_f h5, kdB_l h6, kdB_l h7, kdB_l h8, fun y hy e => ?_⟩
  · unfold isFnK at h1
    split at h1
    · assumption
    · cases h1
  · have := List.all_eq_true.mp h9 y hy
    rw [e] at this
    cases this
def fileB (file : Str) (K : Fr) (c : Addr) : Bool := match K.lookup c with
  | some ⟨_, _, .fields vs, _⟩ => (match (vs[2]? : Option Value) with
    | some (Value.str f _) => decide (f = file)
    | _ => false)
  | _ => false
theorem fileB_ok {file : Str} {K : Fr} {c : Addr} (h : fileB file K c = true) : ∃ (oc : Value) (od : Option Addr) (vs : Array Value) (osl : Array (Option Value)) (tf : Tok), K.lookup c = some ⟨oc, od, .fields vs, osl⟩ ∧ vs[2]? = some (.str file tf) := by
  unfold fileB at h
  split at h
  · rename_i oc od vs osl hl
    split at h
    · rename_i f tf hv
      have e : f = file := of_decide_eq_true h
      subst e
      exact ⟨oc, od, vs, osl, tf, hl, hv⟩
    · cases h
  · cases h
def cellB (K : Fr) (c C : Addr) : Bool := match K.lookup c with
  | some ⟨_, _, .cell (some (.ref D)), _⟩ => decide (D = C)
  | _ => false
theorem cellB_ok {K : Fr} {c C : Addr} (h : cellB K c C = true) : ∃ (oc : Value) (od : Option Addr) (osl : Array (Option Value)), K.lookup c = some ⟨oc, od, .cell (some (.ref C)), osl⟩ := by
  unfold cellB at h
  split at h
  · rename_i oc od D osl hl
    have e : D = C := of_decide_eq_true h
    subst e
    exact ⟨oc, od, osl, hl⟩
  · cases h
def fnB (file : Str) (K : Fr) (C fI : Addr) (n1 n2 : Str) : Bool := match K.lookup fI with
  | some ⟨_, _, .func fd, _⟩ => (match fd with
    | ⟨name, qual, params, .stmts b, sc, gl, [(cn, cc)], .none, .none, _, _, _, .ref cda, _, bu⟩ => (match asArgs3 params, asInit b with
      | some ((x, _), (y, _), (z, _)), some r => decide (x = ("self" : Str)) && decide (y = n1) && decide (z = n2) && decide (r.s = ("super" : Str)) && decide (r.i = ("__init__" : Str)) && decide (r.e1 = ("self" : Str)) && decide (r.e2 = ("self" : Str)) && decide (r.m1 = n1) && decide (r.m1' = n1) && decide (r.m2 = n2) && decide (r.m2' = n2) &&
          decide (cn = ("__class__" : Str)) && decide (name = ("__init__" : Str)) && decide (gl = mainGlobals) && decide (bu = builtinsNs) && scoB sc n1 n2 && (r.p2.endLine == r.p4.line) && PySem.W.codeIn K (.ref cda) qual && fileB file K cda && cellB K cc C
      | _, _ => false)
    | _ => false)
  | _ => false
def exB (file : Str) (K : Fr) (C : Addr) (n1 n2 : Str) : Bool :=
  clsB K C && (decide (PySem.W.findIn K (.ref C) "__setattr__" = some (some (.builtin "object.__setattr__"))) && (decide (PySem.W.findIn K (.ref C) n1 = some none) && (decide (PySem.W.findIn K (.ref C) n2 = some none) && (decide (PySem.W.findIn K (.ref C) "__init__" = some (some (.ref (He.ma K C "__init__")))) && (decide (PySem.W.typeIn K (.ref (He.ma K C "__init__")) = some (.type "function")) &&
  (decide (([("self" : Str), n1, n2]).Nodup) && (decide ((n1 == ("__debug__" : Str)) = false ∧ (n2 == ("__debug__" : Str)) = false) && (decide (PySem.W.nsIn K cStatics "thirdparty.any" = some none) && (decide (PySem.W.ks_superIn K C C "__init__" = some (some (.builtin "ValueError.__init__"))) && (decide (PySem.W.subIn K (.ref C) (.type "ValueError") = some true) && (decide (PySem.W.mroIn K C (.ref C) = some true) &&
  (PySem.W.excInitIn K C PySem.HandSPX.veTail "ValueError.__new__" && (PySem.W.hasDictIn K C && fnB file K C (He.ma K C "__init__") n1 n2)))))))))))))
theorem exB_ok {P : Program} {file : Str} {K : Fr} {C : Addr} {n1 n2 : Str} (hf : ((P.main.file : Str) == file) = true) (hs : (P.main.scope.names.lookup ("super" : Str)).isSome = false) (kC : PySem.W.keepIn K (.ref C) = true) (bC : PySem.W.subIn K (.ref C) (.type "BaseException") = some true) (tC : PySem.W.typeIn K (.ref C) = some (.type "type")) (h : exB file K C n1 n2 = true) : ∃ fI cc cda q msg qual sc, PySem.EXI.Txt K P C fI cc cda q msg n1 n2 qual sc := by
  unfold exB at h
  simp only [Bool.and_eq_true, decide_eq_true_eq] at h
  obtain ⟨h1, h2, h3, h4, h5, h6, h7, h8, h9, h10, h11, h12, h13, h14, h15⟩ := h
  unfold fnB at h15
  split at h15
  · rename_i oc od fd osl hl
    split at h15
    · rename_i name qual params b sc gl cn cc doc pm an cda ct bu
      split at h15
      · rename_i x p y q z t r ha hi
        simp only [Bool.and_eq_true, decide_eq_true_eq] at h15
        obtain ⟨⟨⟨⟨⟨⟨⟨⟨⟨⟨⟨⟨⟨⟨⟨⟨⟨⟨⟨g1, g2⟩, g3⟩, g4⟩, g5⟩, g6⟩, g7⟩, g8⟩, g9⟩, g10⟩, g11⟩, g12⟩, g13⟩, g14⟩, g15⟩, g16⟩, g17⟩, g18⟩, g19⟩, g20⟩ := h15
        have ea := asArgs3_of ha
        have ei := asInit_of hi
        obtain ⟨fc, fdd, vs, fsl, tf, hcode, hvs⟩ := fileB_ok g19
        subst g1 g2 g3 g12 g13 g14 g15
        rw [g4, g5, g6, g7, g8, g9, g10, g11] at ei
        refine ⟨He.ma K C "__init__", cc, cda, ⟨p, q, t, r.p0, r.p1, r.p2, r.p3, r.p4, r.p5, r.kk, r.a1, r.a2, r.a3, r.a4, r.b1, r.b2, r.b3, r.b4⟩, r.msg, qual, sc, ⟨clsB_ok h1, h2, h3, h4, h5, h6, kC, bC, tC, ⟨oc, doc, pm, ct, od, an, osl, ?_⟩, g18, ⟨fc, fdd, vs, fsl, file, tf, hcode, hvs, hf⟩, hs, cellB_ok g20, scoB_ok g16, h7, h8, h9, h10, h11, h12, h13, h14, g17⟩⟩
        rw [hl, ea, ei]
        rfl
      · cases h15
    · cases h15
  · cases h15
/-- of a class without, with two fields -/
def clB (file : Str) (K : Fr) (x : Str) (fs : List Str) : Bool := decide (PySem.W.nsIn K mainGlobals x = some (some (.ref (He.ga K x)))) && (PySem.W.keepIn K (.ref (He.ga K x)) && (decide (PySem.W.subIn K (.ref (He.ga K x)) (.type "BaseException") = some true) && (decide (PySem.W.typeIn K (.ref (He.ga K x)) = some (.type "type")) && match fs with
  | [] => PySem.W.excIn K (He.ga K x) PySem.HandSPX.veTail "ValueError.__new__"
  | [n1, n2] => exB file K (He.ga K x) n1 n2 && (xfB K (He.ga K x) && decide (PySem.W.nsIn K mainGlobals "super" = some none))
  | _ => false)))
theorem clB_ok {P : Program} {file : Str} {K : Fr} {x : Str} {fs : List Str} {h0 : Heap} {mg : Str → Option Value} (KX : K.In h0) (G : h0.Ns mainGlobals mg) (hf : fs ≠ [] → ((P.main.file : Str) == file) = true ∧ (P.main.scope.names.lookup ("super" : Str)).isSome = false) (h : clB file K x fs = true) : ClsOk P K mg (He.ga K x) ⟨x, fs⟩ := by
  unfold clB at h
  simp only [Bool.and_eq_true, decide_eq_true_eq] at h
  obtain ⟨h1, h2, h3, h4, h5⟩ := h
  refine ⟨PySem.W.mg_of KX G h1, h2, h3, h4, ?_⟩
  match fs, hf, h5 with
  | [], _, h5 => exact .inl ⟨rfl, h5⟩
  | [n1, n2], hf, h5 =>
    simp only [Bool.and_eq_true, decide_eq_true_eq] at h5
    obtain ⟨h6, h7, h8⟩ := h5
    obtain ⟨f1, f2⟩ := hf (by simp)
    exact .inr ⟨n1, n2, rfl, exB_ok f1 f2 h2 h3 h4 h6, xfB_ok h7, PySem.W.mg_none_of KX G h8⟩
  | [_], _, h5 => cases h5
  | _ :: _ :: _ :: _, _, h5 => cases h5
/-! ### what is looked at -/
def frY (g : Addr → Option Obj) (n : Nat) : Fr := He.frT g (cStatics :: He.asD g n)
def obsY (n : Nat) (fa : List He.Fa) (fn : List He.DefD) (ex : Fr → Bool) (g : Addr → Option Obj) : He.AlD × Bool := (He.obsD fa fn (frY g n), ex (frY g n))
def hookY (n : Nat) (fa : List He.Fa) (fn : List He.DefD) (ex : Fr → Bool) : PySem.W.Hook where
  α := He.AlD × Bool
  obs s := obsY n fa fn ex s.heap.get?
  val _ := (He.valD fn, true)
  says _ h := ∃ K : Fr, K.In h ∧ He.SaysD fa fn K ∧ ex K = true
  of _ _ e := ⟨_, He.frT_in, congrArg (fun z : He.AlD × Bool => z.1) e, congrArg (fun z : He.AlD × Bool => z.2) e⟩
  keeps _ _ _ := fun ⟨K, hK, c⟩ k => ⟨K, PySem.W.Frag.In.keeps hK k, c⟩
theorem obsY_eq {n : Nat} {fa : List He.Fa} {fn : List He.DefD} {ex : Fr → Bool} {g : Addr → Option Obj} {s : Shared} (h : ∀ a, g a = s.heap.get? a) : obsY n fa fn ex g = (hookY n fa fn ex).obs s := by
  have e : g = s.heap.get? := funext h
  subst e
  rfl

/-! ### a law's table -/
structure Rec where
  id : Nat
  ix : Nat
  name : Str
  ps : List Str
  N : List Str
  fn : Fn
structure LawT where
  top : List Stmt
  fns : List Rec
  gls : List (Nat × Str × D)
  bs : List Str
  cls : List (Nat × Str × List Str)
  file : Str
section
variable (T : LawT)
def LawT.get (f : Nat) : Option Rec := T.fns.find? fun r => r.id == f
def LawT.getG (g : Nat) : Option (Nat × Str × D) := T.gls.find? fun r => r.1 == g
def LawT.prog : Prog := ⟨fun f => (T.get f).map (·.fn), fun g => (T.getG g).map (·.2.2)⟩
def LawT.nm : Nm := ⟨fun f => match T.get f with | some r => r.name | none => "", fun g => match T.getG g with | some r => r.2.1 | none => "", T.bs, fun f => (T.get f).isSome, fun c => (T.cls.find? fun r => r.1 == c).map fun r => ⟨r.2.1, r.2.2⟩⟩
def LawT.stR (r : Rec) : Stmt := T.top.getD r.ix (.Pass ⟨0, 0, 0, 0⟩)
def LawT.st (f : Nat) : Stmt := match T.get f with
  | some r => T.stR r
  | none => .Pass ⟨0, 0, 0, 0⟩
def LawT.N (f : Nat) : List Str := match T.get f with
  | some r => r.N
  | none => []
def LawT.ps (f : Nat) : List Str := match T.get f with
  | some r => r.ps
  | none => []
def scB (N ps : List Str) (sc : Scope) : Bool := isFnK sc && !sc.isCoroutine && !sc.isGenerator && decide N.Nodup && decide (N.take ps.length = ps) && (ps.all fun x => match sc.names.lookup x with | some .local => true | some .cell => true | _ => false) && sc.names.all fun y => match y.2 with | .free => false | _ => true
theorem scB_ok {N ps : List Str} {sc : Scope} (h : scB N ps sc = true) : FnScope N ps sc := by
  unfold scB at h
  simp only [Bool.and_eq_true, Bool.not_eq_true', decide_eq_true_eq] at h
  obtain ⟨⟨⟨⟨⟨⟨h1, h2⟩, h3⟩, h4⟩, h5⟩, h6⟩, h7⟩ := h
  refine ⟨?_, h2, h3, h4, h5, fun x hx => ?_, fun y hy e => ?_⟩
  · unfold isFnK at h1
    split at h1
    · assumption
    · cases h1
  · have := List.all_eq_true.mp h6 x hx
    split at this
    · rename_i e
      exact .inl e
    · rename_i e
      exact .inr e
    · cases this
  · have := List.all_eq_true.mp h7 y hy
    rw [e] at this
    cases this
def plainA (params : Arguments) (ps : List Str) : Bool := params.posonlyargs.isEmpty && decide (params.args.map (·.arg) = ps) && params.vararg.isNone && params.kwonlyargs.isEmpty && params.kwarg.isNone
def LawT.ckR (r : Rec) : Bool := decide (r.N.length = r.fn.nn) && decide (r.ps.length = r.fn.np) && scB r.N r.ps (defScope (T.stR r)) && ckSs T.nm r.N r.fn.body (defScope (T.stR r)) (defBody (T.stR r)) && plainA (defArgs (T.stR r)) r.ps && decide r.ps.Nodup
def LawT.ck : Bool := T.fns.all T.ckR
def LawT.def_ (r : Rec) : He.DefD := ⟨(r.name, none), r.name, r.name, defArgs (T.stR r), defBody (T.stR r), defScope (T.stR r), [], []⟩
def LawT.defs : List He.DefD := T.fns.map T.def_
def LawT.fas : List He.Fa := T.bs.map He.Fa.free ++ T.fns.map fun r => He.Fa.glo r.name
def LawT.ex (K : Fr) : Bool := T.gls.all fun g => match PySem.W.nsIn K mainGlobals g.2.1 with
  | some (some u) => relD K g.2.2 u
  | _ => false
def LawT.ex2 (K : Fr) : Bool := T.ex K && ((T.cls.all fun r => clB T.file K r.2.1 r.2.2) && T.cls.all fun r => T.cls.all fun q => decide (PySem.W.exmOne K (.ref (He.ga K r.2.1)) (.ref (He.ga K q.2.1)) = some (subC r.1 q.1)))
def LawT.hook (n : Nat) : PySem.W.Hook := hookY n T.fas T.defs T.ex2
def LawT.ob (n : Nat) (s : PySem.W.SharedT) : He.AlD × Bool := obsY n T.fas T.defs T.ex2 (HandSHeadRun.getT s)
/-- the program's file, where a class has an __init__ -/
def LawT.pck (P : Program) : Bool := (T.cls.all fun r => r.2.2.isEmpty) || (((P.main.file : Str) == T.file) && !(P.main.scope.names.lookup ("super" : Str)).isSome)
theorem LawT.ob_eq (n : Nat) (s : PySem.W.SharedT) : T.ob n s = (T.hook n).obs s.abs := obsY_eq (HandSHeadRun.getT_eq s)
end
section
variable {T : LawT}
theorem LawT.ckR_of (h : T.ck = true) {f : Nat} {r : Rec} (hr : T.get f = some r) : T.ckR r = true := List.all_eq_true.mp h r (List.mem_of_find?_eq_some hr)
/-- the law's def lets its promise stand -/
theorem LawT.end_ {l : PySem.W.OpenLaw} {n : Nat} {K : Fr} {w : World} {h : Heap} {mg : Str → Option Value} {L k : Nat} {fa : Addr} {rl : Rec} (hck : T.ck = true) (hpk : T.pck l.prog = true) (KX : K.In h) (G : h.Ns mainGlobals mg) (c : He.SaysD T.fas T.defs K ∧ T.ex2 K = true)
    (hL : T.get L = some rl) (hps : rl.ps = [("_law_script" : Str)]) (hmg : mg rl.name = some (.ref fa))
    (law : ∀ ns : List Int, ns.length ≤ n → ∃ M, run T.prog k L [.rol (ns.map D.int)] [] = .ok (.bl true) M) :
    ∃ (K : PySem.W.Frag) (fd : FuncData) (sp : Sp), K.In h ∧ (∀ (s : Shared) (u : Value), BindsTo s fd ⟨[u], []⟩ [("_law_script", u)]) ∧
        (∀ (H : Hp) (a : Addr) (ns : List Int), ns.length ≤ n → Only H → SqL K H a (ns.map V.int) → sp [.ref a] H (fun v _ => v = .bl true) fun _ _ _ => False) ∧
        ∀ base : Heap, K.In base → base.Ns mainGlobals mg → FnOk l.prog w K mg base (L2.CX l.prog w) k fa fd ["_law_script"] sp := by
  have c0 : He.SaysD T.fas T.defs K := c.1
  have cmore := c.2
  unfold LawT.ex2 at cmore
  simp only [Bool.and_eq_true] at cmore
  obtain ⟨cm1, cm2, cm3⟩ := cmore
  have hd : ∀ f : Nat, ∃ fd : FuncData, ∀ r : Rec, T.get f = some r → FunD K r.name r.name (defArgs (T.stR r)) (defBody (T.stR r)) (defScope (T.stR r)) [] [] (He.ga K r.name) fd := by
    intro f
    have hl : ∀ r ∈ T.fns, ∃ fd : FuncData, FunD K r.name r.name (defArgs (T.stR r)) (defBody (T.stR r)) (defScope (T.stR r)) [] [] (He.ga K r.name) fd := fun r hr => c0.defs (d := T.def_ r) (List.mem_map_of_mem hr)
    cases e : T.get f with
    | none =>
      obtain ⟨fd, _⟩ := hl rl (List.mem_of_find?_eq_some hL)
      exact ⟨fd, fun r h => nomatch h⟩
    | some r =>
      obtain ⟨fd, h⟩ := hl r (List.mem_of_find?_eq_some e)
      exact ⟨fd, fun r' h' => by cases h'; exact h⟩
  obtain ⟨fd, hfd⟩ := Classical.skolem.mp hd
  let m : Md := ⟨T.prog, T.nm, fun c => match T.nm.cl c with | some I => (He.ga K I.name, I.fs) | none => (0, []), fun f => He.ga K (T.nm.fn f), fd, T.ps⟩
  have get : ∀ f F, m.p.fn f = some F → ∃ r, T.get f = some r ∧ r.fn = F := fun f F h => by
    have h : (T.get f).map (·.fn) = some F := h
    cases e : T.get f with
    | none => rw [e] at h; cases h
    | some r =>
      rw [e] at h
      exact ⟨r, rfl, Option.some.inj h⟩
  have glo : ∀ r ∈ T.fns, mg r.name = some (.ref (He.ga K r.name)) := fun r hr => He.glo_ok KX G (c0.facts (f := .glo r.name) (List.mem_append_right _ (List.mem_map.mpr ⟨r, hr, rfl⟩)))
  have hT : ∀ f F, m.p.fn f = some F → FnT m T.N T.st f F := fun f F h => by
    obtain ⟨r, e, rfl⟩ := get f F h
    have q := LawT.ckR_of hck e
    unfold LawT.ckR at q
    simp only [Bool.and_eq_true, decide_eq_true_eq] at q
    obtain ⟨⟨⟨⟨⟨q1, q2⟩, q3⟩, q4⟩, q5⟩, q6⟩ := q
    have eN : T.N f = r.N := by unfold LawT.N; rw [e]
    have eP : T.ps f = r.ps := by unfold LawT.ps; rw [e]
    have eS : T.st f = T.stR r := by unfold LawT.st; rw [e]
    exact ⟨by rw [eN]; exact q1, by show (T.ps f).length = _; rw [eP]; exact q2, by show FnScope (T.N f) (T.ps f) _; rw [eN, eP, eS]; exact scB_ok q3, by rw [eN, eS]; exact q4⟩
  have hB : ∀ (f : Nat) (r : Rec), T.get f = some r → ∀ (kV doc pm : Value) (an : Option Addr) (cdv ct : Value) (us : List Value), us.length = r.ps.length → bindArgs (PySem.W.fnOf r.name r.name (defArgs (T.stR r)) (defBody (T.stR r)) (defScope (T.stR r)) .none kV doc pm an cdv ct) ⟨us, []⟩ = pure (r.ps.zip us) := fun f r e => by
    have q := LawT.ckR_of hck e
    unfold LawT.ckR plainA at q
    simp only [Bool.and_eq_true, decide_eq_true_eq, List.isEmpty_iff, Option.isNone_iff_eq_none] at q
    obtain ⟨⟨⟨⟨⟨q1, q2⟩, q3⟩, q4⟩, ⟨⟨⟨⟨q5, q6⟩, q7⟩, q8⟩, q9⟩⟩, q10⟩ := q
    exact binds_plain q5 q6 q7 q8 q9 q10
  have hH : ∀ f F, m.p.fn f = some F → FnH m K mg T.st f := fun f F h => by
    obtain ⟨r, e, rfl⟩ := get f F h
    have eS : T.st f = T.stR r := by unfold LawT.st; rw [e]
    have en : T.nm.fn f = r.name := by show (match T.get f with | some r => r.name | none => "") = _; rw [e]
    have eP : T.ps f = r.ps := by unfold LawT.ps; rw [e]
    refine ⟨?_, ?_, ?_⟩
    · show FunD K (T.nm.fn f) (T.nm.fn f) (defArgs (T.st f)) (defBody (T.st f)) (defScope (T.st f)) [] [] (He.ga K (T.nm.fn f)) (fd f)
      rw [eS, en]
      exact hfd f r e
    · show mg (T.nm.fn f) = some (.ref (He.ga K (T.nm.fn f)))
      rw [en]
      exact glo r (List.mem_of_find?_eq_some e)
    · show Binds K (fd f) (T.ps f) []
      rw [eP]
      exact (hfd f r e).bindsN (hB f r e)
  have hgl : ∀ g d, m.p.gl g = some d → ∃ u v, mg (m.nm.gl g) = some u ∧ RelV v u ∧ ∀ H ι, RV K H ι d v := fun g d h => by
    have h : (T.getG g).map (·.2.2) = some d := h
    cases e : T.getG g with
    | none => rw [e] at h; cases h
    | some r =>
      rw [e] at h
      have h := Option.some.inj h
      subst h
      have q := List.all_eq_true.mp (show (T.gls.all fun g => match PySem.W.nsIn K mainGlobals g.2.1 with | some (some u) => relD K g.2.2 u | _ => false) = true from cm1) r (List.mem_of_find?_eq_some e)
      have en : m.nm.gl g = r.2.1 := by show (match T.getG g with | some r => r.2.1 | none => "") = _; rw [e]
      rw [en]
      split at q
      · rename_i u eu
        obtain ⟨v, r1, r2⟩ := relD_ok q
        exact ⟨u, v, PySem.W.mg_of KX G eu, r1, r2⟩
      · cases q
  have hbl : ∀ x ∈ m.nm.bs, mg x = none := fun x hx => He.free_ok KX G (c0.facts (f := .free x) (List.mem_append_left _ (List.mem_map.mpr ⟨x, hx, rfl⟩)))
  have hcls : ∀ c I, m.nm.cl c = some I → ∃ r ∈ T.cls, r.1 = c ∧ I = ⟨r.2.1, r.2.2⟩ := fun c I h => by
    have h : (T.cls.find? fun r => r.1 == c).map (fun r => (⟨r.2.1, r.2.2⟩ : ClI)) = some I := h
    obtain ⟨r, hr, e⟩ := Option.map_eq_some_iff.mp h
    exact ⟨r, List.mem_of_find?_eq_some hr, beq_iff_eq.mp (List.find?_some (p := fun r : Nat × Str × List Str => r.1 == c) hr), e.symm⟩
  have hca : ∀ c I, m.nm.cl c = some I → m.ca c = (He.ga K I.name, I.fs) := fun c I h => by
    show (match T.nm.cl c with | some I => (He.ga K I.name, I.fs) | none => (0, [])) = _
    rw [show T.nm.cl c = some I from h]
  have hcl : ∀ c I, m.nm.cl c = some I → ClsOk l.prog K mg (m.ca c).1 I ∧ (m.ca c).2 = I.fs := fun c I h => by
    rw [hca c I h]
    obtain ⟨r, hr, _, rfl⟩ := hcls c I h
    refine ⟨clB_ok KX G (fun hne => ?_) (List.all_eq_true.mp cm2 r hr), rfl⟩
    unfold LawT.pck at hpk
    rw [Bool.or_eq_true] at hpk
    rcases hpk with h1 | h1
    · exact absurd (List.isEmpty_iff.mp (List.all_eq_true.mp h1 r hr)) hne
    · rw [Bool.and_eq_true, Bool.not_eq_true'] at h1
      exact h1
  have hex : ∀ c c' I I', m.nm.cl c = some I → m.nm.cl c' = some I' → PySem.W.exmOne K (.ref (m.ca c).1) (.ref (m.ca c').1) = some (subC c c') := fun c c' I I' h h' => by
    rw [hca c I h, hca c' I' h']
    obtain ⟨r, hr, e1, rfl⟩ := hcls c I h
    obtain ⟨q, hq, e2, rfl⟩ := hcls c' I' h'
    have := of_decide_eq_true (List.all_eq_true.mp (List.all_eq_true.mp cm3 r hr) q hq)
    rw [e1, e2] at this
    exact this
  have hhf : ∀ f, m.nm.hf f = true → ∃ F, m.p.fn f = some F := fun f h => by
    have h : (T.get f).isSome = true := h
    obtain ⟨r, e⟩ := Option.isSome_iff_exists.mp h
    exact ⟨r.fn, by show (T.get f).map (·.fn) = _; rw [e]; rfl⟩
  have en : T.nm.fn L = rl.name := by show (match T.get L with | some r => r.name | none => "") = _; rw [hL]
  have hfa : He.ga K (T.nm.fn L) = fa := by
    rw [en]
    have := (glo rl (List.mem_of_find?_eq_some hL)).symm.trans hmg
    cases this
    rfl
  have hFL : m.p.fn L = some rl.fn := by show (T.get L).map (·.fn) = _; rw [hL]; rfl
  have hnp : rl.fn.np = 1 := by
    have := (hT L rl.fn hFL).len
    rw [← this]
    show (T.ps L).length = 1
    unfold LawT.ps
    rw [hL]
    show rl.ps.length = 1
    rw [hps]; rfl
  refine ⟨K, fd L, spD K m.ca rl.fn.np (run T.prog k L), KX, fun s u => ?_, fun H a ns hn hO hS => ?_, fun base _ _ => ?_⟩
  · have b := FunD.bindsA (ps := [("_law_script" : Str)]) (hfd L rl hL) (by
      have := hB L rl hL
      rw [hps] at this
      exact this)
    exact b s [u] rfl
  · obtain ⟨M, hM⟩ := law ns hn
    refine ⟨[], [.rol (ns.map D.int)], [], ⟨rfl, List.nodup_nil, fun i o h => by cases h⟩, .cons (.rol ?_ (RVs.ofInts ns)) .nil, hnp.symm, ?_⟩
    · rcases hS with (hS | hS) | hS
      · rcases hO a with z | ⟨o, xs, z⟩
        · rw [z] at hS; cases hS
        · rw [z] at hS; cases hS
      · exact .inl hS
      · exact .inr hS
    · rw [hM]
      intro H' ι' _ _ v hv
      cases hv
      rfl
  · have := fnOk (m := m) (N := T.N) (st := T.st) (P := l.prog) (w := w) (K := K) (mg := mg) (base := base) hT hH hhf hgl hbl hcl hex k L rl.fn hFL
    have e1 : m.fa L = fa := hfa
    have e2 : m.ps L = [("_law_script" : Str)] := by
      show T.ps L = _
      unfold LawT.ps
      rw [hL]
      exact hps
    rw [e1, e2] at this
    exact this
end
theorem walk_ofW {l : PySem.W.OpenLaw} {n k : Nat} {q : Program} {loose : List Str} {XP : (Str → Option Value) → Heap → Prop} {YP : World → Heap → Prop} {d : DefRec} {x : Str}
    (hn : l.most = some n) (hn2 : n ≤ sizeLine) (hdf : d.params.defaults = []) (hr : Room k callerA)
    (F : ∀ (w : World) (mg : Str → Option Value) (fa : Addr) (h : Heap), YP w h → h.Ns mainGlobals mg → mg d.name = some (.ref fa) →
      ∃ (K : PySem.W.Frag) (fd : FuncData) (sp : Sp), K.In h ∧ (∀ (s : Shared) (u : Value), BindsTo s fd ⟨[u], []⟩ [(x, u)]) ∧
        (∀ (H : Hp) (a : Addr) (ns : List Int), ns.length ≤ n → Only H → SqL K H a (ns.map V.int) → sp [.ref a] H (fun v _ => v = .bl true) fun _ _ _ => False) ∧
        ∀ base : Heap, K.In base → base.Ns mainGlobals mg → FnOk l.prog w K mg base (L2.CX l.prog w) k fa fd [x] sp) :
    PySem.W.WalkO q loose XP YP l.row.toRowW d [] (fun f vs => PySem.call f vs) := by
  refine Att.attach_call hn hdf fun w s₀ s₁ mg mb fa o pm cd doc a vs ns G Y ho hd hcd hmg hobj hints hlen hg => ?_
  obtain ⟨K, fd, sp, KX, hb, hsp, hF⟩ := F w mg fa _ Y G.T.g hmg
  exact law_call KX G.T.g G.T.b G.T.builtins G.T.nolimit hg hobj hints (Nat.le_trans hlen hn2) hr hF hb (fun H hO hS => hsp H a ns hlen hO hS) fun H e s' ⟨_, _, _, _, _, _, _, _, _, _, _, _, z⟩ => z
theorem room_all {k : Nat} (hk : k ≤ 230) : Room k callerA := ⟨rfl, by
  have : callerA.depth + 3 * 230 + 5 < recursionLimit := by decide
  omega, by
  have : callerA.units + 16 * 230 + 200 < cLine := by decide
  omega⟩
end Py

set_option Elab.async false
set_option autoImplicit false
set_option linter.all false
set_option maxRecDepth 100000
set_option maxHeartbeats 4000000
/-! P1: reasoning over run: equations that unfold one step at a time, loops by invariants, memory. -/
namespace Py
open PySem L2

/-! ### choice, sequence: nothing behind is looked at before it is reached (a Tag's type hangs on what must not be rewritten) -/
inductive Tag {α : Type} (a : α) : Type where | mk : Tag a
def sel {α : Type} (k : Bool) (a b : α) (_ : Tag (a, b) := .mk) : α := match k with
  | true => a
  | false => b
def bnd {α β : Type} (r : Res α) (k : α → Mem → Res β) (_ : Tag k := .mk) : Res β := r.bind k
def stk {α : Type} (r : Res α) (env : Env) (k : α → Mem → SR) (_ : Tag k := .mk) : SR := Res.st r env k
def seqS (r : SR) (k : Env → Mem → SR) (_ : Tag k := .mk) : SR := match r with
  | .ok .next env M => k env M
  | r => r
/-- what must be an int, a truth -/
def asI {β : Type} (d : D) (k : Int → β) (z : β) (_ : Tag k := .mk) : β := match d with
  | .int i => k i
  | _ => z
def asB {β : Type} (d : D) (k : Bool → β) (z : β) (_ : Tag k := .mk) : β := match d with
  | .bl i => k i
  | _ => z
/-- an option's content, or nothing -/
def ifSome {α β : Type} (o : Option α) (k : α → β) (z : β) (_ : Tag k := .mk) : β := match o with
  | some a => k a
  | none => z
section
variable {α β : Type} {M : Mem} {env : Env}
theorem sel_true {a b : α} {t : Tag (a, b)} : sel true a b t = a := (rfl)
theorem sel_false {a b : α} {t : Tag (a, b)} : sel false a b t = b := (rfl)
theorem seqS_next {k : Env → Mem → SR} {t : Tag k} : seqS (.ok .next env M) k t = k env M := (rfl)
theorem seqS_ret {d : D} {k : Env → Mem → SR} {t : Tag k} : seqS (.ok (.ret d) env M) k t = .ok (.ret d) env M := (rfl)
theorem seqS_brk {k : Env → Mem → SR} {t : Tag k} : seqS (.ok .brk env M) k t = .ok .brk env M := (rfl)
theorem seqS_cont {k : Env → Mem → SR} {t : Tag k} : seqS (.ok .cont env M) k t = .ok .cont env M := (rfl)
theorem seqS_exc {x : Exn} {k : Env → Mem → SR} {t : Tag k} : seqS (.exc x env M) k t = .exc x env M := (rfl)
theorem bnd_ok {a : α} {k : α → Mem → Res β} {t : Tag k} : bnd (.ok a M) k t = k a M := (rfl)
theorem bnd_exc {a : Exn} {k : α → Mem → Res β} {t : Tag k} : bnd (.exc a M) k t = .exc a M := (rfl)
theorem stk_ok {a : α} {k : α → Mem → SR} {t : Tag k} : stk (.ok a M) env k t = k a M := (rfl)
theorem stk_exc {a : Exn} {k : α → Mem → SR} {t : Tag k} : stk (.exc a M) env k t = .exc a env M := (rfl)
theorem asI_int {i : Int} {k : Int → β} {z : β} {t : Tag k} : asI (.int i) k z t = k i := (rfl)
theorem asB_bl {i : Bool} {k : Bool → β} {z : β} {t : Tag k} : asB (.bl i) k z t = k i := (rfl)
theorem ifSome_some {a : α} {k : α → β} {z : β} {t : Tag k} : ifSome (some a) k z t = k a := (rfl)
theorem ofV_some {a : α} : Res.ofV (some a) M = .ok a M := (rfl)
theorem ofO_some {a : α} : Res.ofO (some (a, M)) = .ok a M := (rfl)
end

section
variable {Γ : Sig} {env : Env} {M : Mem}
theorem x_var {i : Nat} : evE Γ (.var i) env M = .ofV ((env[i]?).bind id) M := (rfl)
theorem x_int {i : Int} : evE Γ (.int i) env M = .ok (.int i) M := (rfl)
theorem x_str {i : List Nat} : evE Γ (.str i) env M = .ok (.str i) M := (rfl)
theorem x_bl {i : Bool} : evE Γ (.bl i) env M = .ok (.bl i) M := (rfl)
theorem x_non : evE Γ .non env M = .ok .non M := (rfl)
theorem x_glob {g : Nat} : evE Γ (.glob g) env M = .ofV (Γ.gl g) M := (rfl)
def esLen : Es → Nat
  | .nil => 0
  | .cons _ es => esLen es + 1
theorem evEs_len : ∀ {es : Es} {env : Env} {M : Mem} {ds : List D} {M' : Mem}, evEs Γ es env M = .ok ds M' → ds.length = esLen es
  | .nil, env, M, ds, M', h => by
    cases (show Res.ok [] M = Res.ok ds M' from h)
    rfl
  | .cons e es, env, M, ds, M', h => by
    have h : (evE Γ e env M).bind (fun d M => (evEs Γ es env M).bind fun ds M => .ok (d :: ds) M) = .ok ds M' := h
    cases h1 : evE Γ e env M with
    | ok d M1 =>
      rw [h1] at h
      have h : (evEs Γ es env M1).bind (fun ds M => .ok (d :: ds) M) = .ok ds M' := h
      cases h2 : evEs Γ es env M1 with
      | ok ds' M2 =>
        rw [h2] at h
        cases (show Res.ok (d :: ds') M2 = .ok ds M' from h)
        rw [List.length_cons, evEs_len h2]; rfl
      | exc x M2 => rw [h2] at h; cases h
      | bad => rw [h2] at h; cases h
    | exc x M1 => rw [h1] at h; cases h
    | bad => rw [h1] at h; cases h
theorem x_tup {es : Es} : evE Γ (.tup es) env M = sel (decide (esLen es ≤ 1000)) (bnd (evEs Γ es env M) fun ds M => .ok (.tup ds) M) ((evEs Γ es env M).bind fun ds M => if ds.length ≤ sizeLine then .ok (.tup ds) M else .bad) := by
  by_cases hl : esLen es ≤ 1000
  · rw [decide_eq_true hl]
    show (evEs Γ es env M).bind _ = (evEs Γ es env M).bind _
    cases h : evEs Γ es env M with
    | ok ds M' =>
      show (if ds.length ≤ sizeLine then Res.ok (D.tup ds) M' else .bad) = .ok (.tup ds) M'
      rw [if_pos (by rw [evEs_len h]; exact Nat.le_trans hl (by decide))]
    | _ => rfl
  · rw [decide_eq_false hl]
    rfl
theorem x_lst {es : Es} : evE Γ (.lst es) env M = sel (decide (esLen es ≤ 1000)) (bnd (evEs Γ es env M) fun ds M => .ok (.obj M.length) (M ++ [MO.lst ds])) ((evEs Γ es env M).bind fun ds M => if ds.length ≤ sizeLine then .ok (.obj M.length) (M ++ [MO.lst ds]) else .bad) := by
  by_cases hl : esLen es ≤ 1000
  · rw [decide_eq_true hl]
    show (evEs Γ es env M).bind _ = (evEs Γ es env M).bind _
    cases h : evEs Γ es env M with
    | ok ds M' =>
      show (if ds.length ≤ sizeLine then Res.ok (D.obj M'.length) (M' ++ [MO.lst ds]) else .bad) = _
      rw [if_pos (by rw [evEs_len h]; exact Nat.le_trans hl (by decide))]
      rfl
    | _ => rfl
  · rw [decide_eq_false hl]
    rfl
theorem x_dict0 : evE Γ .dict0 env M = .ok (.obj M.length) (M ++ [MO.dK []]) := (rfl)
theorem x_neg {a : E} : evE Γ (.neg a) env M = bnd (evE Γ a env M) fun d M => asI d (fun i => .ok (.int (-i)) M) .bad := (rfl)
theorem x_bin {o : BOp} {a b : E} : evE Γ (.bin o a b) env M = bnd (evE Γ a env M) fun x M => bnd (evE Γ b env M) fun y M => .ofO (opBin o x y M) := (rfl)
theorem x_cmp {o : COp} {a b : E} : evE Γ (.cmp o a b) env M = bnd (evE Γ a env M) fun x M => bnd (evE Γ b env M) fun y M => .ofV ((opCmp o x y M).map D.bl) M := (rfl)
theorem x_chain {o : COp} {a b : E} {r : Ch} : evE Γ (.chain o a b r) env M = bnd (evE Γ a env M) fun x M => bnd (evE Γ b env M) fun y M => bnd (Res.ofV (opCmp o x y M) M) fun k M => sel k (evCh Γ r y env M) (.ok (.bl false) M) := (rfl)
theorem x_notE {a : E} : evE Γ (.notE a) env M = bnd (evE Γ a env M) fun x M => asB x (fun b => .ok (.bl (!b)) M) .bad := (rfl)
theorem x_andE {a b : E} : evE Γ (.andE a b) env M = bnd (evE Γ a env M) fun x M => asB x (fun k => sel k (evE Γ b env M) (.ok (.bl false) M)) .bad := by
  show (evE Γ a env M).bind _ = _
  congr 1
  funext x M
  cases x <;> try rfl
  rename_i b
  cases b <;> rfl
theorem x_orE {a b : E} : evE Γ (.orE a b) env M = bnd (evE Γ a env M) fun x M => asB x (fun k => sel k (.ok (.bl true) M) (evE Γ b env M)) .bad := by
  show (evE Γ a env M).bind _ = _
  congr 1
  funext x M
  cases x <;> try rfl
  rename_i b
  cases b <;> rfl
theorem x_ifE {c : T} {a b : E} : evE Γ (.ifE c a b) env M = bnd (evT Γ c env M) fun k M => sel k (evE Γ a env M) (evE Γ b env M) := (rfl)
theorem x_ix {a b : E} : evE Γ (.ix a b) env M = bnd (evE Γ a env M) fun x M => bnd (evE Γ b env M) fun y M => .ofV (opIx x y M) M := (rfl)
theorem x_slice {a : E} {lo hi : OE} : evE Γ (.slice a lo hi) env M = bnd (evE Γ a env M) fun x M => bnd (evO Γ lo env M) fun l M => bnd (evO Γ hi env M) fun h M => .ofO (opSlice x l h M) := (rfl)
theorem x_call {f : Nat} {es : Es} : evE Γ (.call f es) env M = bnd (evEs Γ es env M) fun ds M => Γ.call f ds M := (rfl)
theorem x_blt {b : Bi} {es : Es} : evE Γ (.blt b es) env M = bnd (evEs Γ es env M) fun ds M => .ofO (opBi b ds M) := (rfl)
theorem x_meth {m : Me} {o : E} {es : Es} : evE Γ (.meth m o es) env M = bnd (evE Γ o env M) fun x M => sel (meOk m x M) (bnd (evEs Γ es env M) fun ds M => .ofO (opMe m x ds M)) .bad := (rfl)
theorem x_rev {a : E} : evE Γ (.rev a) env M = bnd (evE Γ a env M) fun x M => .ofO (opRev x M) := (rfl)
theorem x_tidy {e : E} : evE Γ (.tidy e) env M = tidyR M (evE Γ e env M) := (rfl)
theorem s_tidy {s : S} : evS Γ (.tidy s) env M = tidyS M (evS Γ s env M) := (rfl)
theorem x_nil : evEs Γ .nil env M = .ok [] M := (rfl)
theorem x_cons {e : E} {es : Es} : evEs Γ (.cons e es) env M = bnd (evE Γ e env M) fun d M => bnd (evEs Γ es env M) fun ds M => .ok (d :: ds) M := (rfl)
theorem x_last {o : COp} {a : E} {x : D} : evCh Γ (.last o a) x env M = bnd (evE Γ a env M) fun y M => .ofV ((opCmp o x y M).map D.bl) M := (rfl)
theorem x_more {o : COp} {a : E} {r : Ch} {x : D} : evCh Γ (.more o a r) x env M = bnd (evE Γ a env M) fun y M => bnd (Res.ofV (opCmp o x y M) M) fun k M => sel k (evCh Γ r y env M) (.ok (.bl false) M) := (rfl)
theorem x_o0 : evO Γ .none env M = .ok none M := (rfl)
theorem x_o1 {e : E} : evO Γ (.some e) env M = bnd (evE Γ e env M) fun d M => asI d (fun i => .ok (some i) M) .bad := (rfl)
theorem t_tr {e : E} : evT Γ (.tr e) env M = bnd (evE Γ e env M) fun d M => .ofV (truth d M) M := (rfl)
theorem t_cmp {o : COp} {a b : E} : evT Γ (.cmp o a b) env M = bnd (evE Γ a env M) fun x M => bnd (evE Γ b env M) fun y M => .ofV (opCmp o x y M) M := (rfl)
theorem t_chain {o : COp} {a b : E} {r : Ch} : evT Γ (.chain o a b r) env M = bnd (evE Γ a env M) fun x M => bnd (evE Γ b env M) fun y M => bnd (Res.ofV (opCmp o x y M) M) fun k M => sel k (bnd (evCh Γ r y env M) fun d M => asB d (fun k => .ok k M) .bad) (.ok false M) := (rfl)
theorem t_and {a b : T} : evT Γ (.and a b) env M = bnd (evT Γ a env M) fun k M => sel k (evT Γ b env M) (.ok false M) := (rfl)
theorem t_or {a b : T} : evT Γ (.or a b) env M = bnd (evT Γ a env M) fun k M => sel k (.ok true M) (evT Γ b env M) := (rfl)
theorem t_not {a : T} : evT Γ (.not a) env M = bnd (evT Γ a env M) fun k M => .ok (!k) M := (rfl)
theorem t_o0 : evOT Γ .none env M = .ok true M := (rfl)
theorem t_o1 {c : T} : evOT Γ (.some c) env M = evT Γ c env M := (rfl)
theorem w_seq {e : E} : evIt Γ (.seq e) env M = bnd (evE Γ e env M) fun d M => .ofV (walkOf d M) M := (rfl)
theorem w_r1 {a : E} : evIt Γ (.range1 a) env M = bnd (evE Γ a env M) fun x M => asI x (fun j => if -big ≤ j ∧ j < big then .ok (.seq (rngD 0 j)) M else .bad) .bad := (rfl)
theorem w_r2 {a b : E} : evIt Γ (.range2 a b) env M = bnd (evE Γ a env M) fun x M => bnd (evE Γ b env M) fun y M => asI x (fun i => asI y (fun j => if -big ≤ i ∧ i < big ∧ -big ≤ j ∧ j < big then .ok (.seq (rngD i j)) M else .bad) .bad) .bad := by
  show (evE Γ a env M).bind _ = _
  congr 1
  funext x M
  congr 1
  funext y M
  cases x <;> cases y <;> rfl
/-- a comprehension's turn -/
noncomputable def xTurn (Γ : Sig) (own : List Nat) (tg : Tg) (c : OT) (e : E) (env : Env) (d : D) (M : Mem) : Res (Option D) := ifSome (bindTg tg d (wipeE env own)) (fun env' => noExc (bnd (evOT Γ c env' M) fun k M => sel k (bnd (evE Γ e env' M) fun y M => .ok (some y) M) (.ok none M))) .bad
def lcWk (turn : D → Mem → Res (Option D)) (n0 : Nat) (wk : Wk) (ln : Nat → Nat) (M : Mem) : Res Unit := match wk with
  | .seq xs => lcSeq turn n0 xs M
  | .live n => lcLive turn n0 n (ln n) 0 M
theorem x_lc {own : List Nat} {tg : Tg} {it : Wi} {c : OT} {e : E} : evE Γ (.lc own tg it c e) env M = bnd (evIt Γ it env M) fun wk M => bnd (lcWk (xTurn Γ own tg c e env) M.length wk (lenAt M) (M ++ [MO.lst []])) fun _ M' => .ok (.obj M.length) M' := by
  show (evIt Γ it env M).bind _ = (evIt Γ it env M).bind _
  congr 1
  funext wk M
  show Res.bind _ _ = Res.bind _ _
  congr 1
  have ht : ∀ d M, (match bindTg tg d (wipeE env own) with | some env' => noExc ((evOT Γ c env' M).bind fun k M => match k with | true => (evE Γ e env' M).bind fun y M => .ok (some y) M | false => .ok none M) | none => .bad) = xTurn Γ own tg c e env d M := by
    intro d M
    unfold xTurn
    cases h : bindTg tg d (wipeE env own) with
    | none => rfl
    | some env' => rfl
  cases wk with
  | seq xs =>
    show lcSeq _ M.length xs _ = lcSeq _ M.length xs _
    congr 1
    funext d M
    exact ht d M
  | live n =>
    show lcLive _ M.length n _ 0 _ = lcLive _ M.length n _ 0 _
    congr 1
    funext d M
    exact ht d M
theorem lcWk_seq {turn : D → Mem → Res (Option D)} {n0 : Nat} {xs : List D} {ln : Nat → Nat} : lcWk turn n0 (.seq xs) ln M = lcSeq turn n0 xs M := (rfl)
theorem noExc_ok {α : Type} {a : α} : noExc (.ok a M) = .ok a M := (rfl)
theorem wp_nil : wipeE env [] = env := (rfl)
theorem wp_cons {v : Nat} {vs : List Nat} : wipeE env (v :: vs) = (wipeE env vs).set v none := (rfl)
theorem s_nil : evSs Γ .nil env M = .ok .next env M := (rfl)
theorem s_cons {s : S} {ss : Ss} : evSs Γ (.cons s ss) env M = seqS (evS Γ s env M) fun env' M' => evSs Γ ss env' M' := by
  show (match evS Γ s env M with | .ok .next env' M' => evSs Γ ss env' M' | r => r) = _
  cases evS Γ s env M with
  | ok f e m => cases f <;> rfl
  | _ => rfl
theorem s_set {tg : Tg} {e : E} : evS Γ (.set tg e) env M = stk (evE Γ e env M) env fun d M => ifSome (bindTg tg d env) (fun env' => .ok .next env' M) .bad := by
  show Res.st _ _ _ = Res.st _ _ _
  congr 1
  funext d M
  cases h : bindTg tg d env <;> simp only [ifSome]
theorem s_setix {o i e : E} : evS Γ (.setix o i e) env M = stk (evE Γ e env M) env fun v M => stk (evE Γ o env M) env fun x M => stk (evE Γ i env M) env fun y M => ifSome (opSetIx x y v M) (fun M' => .ok .next env M') .bad := by
  show Res.st _ _ _ = Res.st _ _ _
  congr 1
  funext v M
  show Res.st _ _ _ = Res.st _ _ _
  congr 1
  funext x M
  show Res.st _ _ _ = Res.st _ _ _
  congr 1
  funext y M
  cases opSetIx x y v M <;> rfl
theorem s_aug {i : Nat} {o : BOp} {e : E} : evS Γ (.aug i o e) env M = ifSome ((env[i]?).bind id) (fun x => stk (evE Γ e env M) env fun y M => ifSome (opAug o x y) (fun z => .ok .next (env.set i (some z)) M) .bad) .bad := by
  show (match (env[i]?).bind id with | some x => Res.st _ _ _ | none => SR.bad) = _
  cases (env[i]?).bind id with
  | none => rfl
  | some x =>
    show Res.st _ _ _ = Res.st _ _ _
    congr 1
    funext y M
    cases opAug o x y <;> rfl
theorem s_expr {e : E} : evS Γ (.expr e) env M = stk (evE Γ e env M) env fun _ M => .ok .next env M := (rfl)
theorem s_ret {e : E} : evS Γ (.ret e) env M = stk (evE Γ e env M) env fun d M => .ok (.ret d) env M := (rfl)
theorem s_ret0 : evS Γ .ret0 env M = .ok (.ret .non) env M := (rfl)
theorem s_if {c : T} {a b : Ss} : evS Γ (.ifS c a b) env M = stk (evT Γ c env M) env fun k M => sel k (evSs Γ a env M) (evSs Γ b env M) := (rfl)
noncomputable def xBody (Γ : Sig) (tg : Tg) (b : Ss) (d : D) (env : Env) (M : Mem) : SR := ifSome (bindTg tg d env) (fun env' => evSs Γ b env' M) .bad
def forWk (body : D → Env → Mem → SR) (wk : Wk) (env : Env) (M : Mem) : SR := match wk with
  | .seq xs => forSeq body xs env M
  | .live n => forLive body n (lenAt M n) 0 env M
theorem s_for {tg : Tg} {it : Wi} {b : Ss} : evS Γ (.forS tg it b) env M = stk (evIt Γ it env M) env fun wk M => forWk (xBody Γ tg b) wk env M := by
  show Res.st _ _ _ = Res.st _ _ _
  congr 1
  funext wk M
  cases wk with
  | seq xs =>
    show forSeq _ xs env M = forSeq _ xs env M
    congr 1
    funext d env M
    unfold xBody
    cases h : bindTg tg d env <;> simp only [ifSome]
  | live n =>
    show forLive _ n _ 0 env M = forLive _ n _ 0 env M
    congr 1
    funext d env M
    unfold xBody
    cases h : bindTg tg d env <;> simp only [ifSome]
theorem s_while {c : T} {b : Ss} : evS Γ (.whileS c b) env M = whileN (evT Γ c) (evSs Γ b) fuel env M := (rfl)
theorem s_brk : evS Γ .brk env M = .ok .brk env M := (rfl)
theorem s_cont : evS Γ .cont env M = .ok .cont env M := (rfl)
theorem s_pass : evS Γ .pass env M = .ok .next env M := (rfl)
theorem b_name {i : Nat} {d : D} : bindTg (.name i) d env = some (env.set i (some d)) := (rfl)
end
theorem forWk_seq {body : D → Env → Mem → SR} {xs : List D} {env : Env} {M : Mem} : forWk body (.seq xs) env M = forSeq body xs env M := (rfl)

/-! ### ends -/
/-- r comes to an end with a value as Q says (a structure: it never unfolds) -/
structure Ok {α : Type} (r : Res α) (Q : α → Mem → Prop) (t : Tag Q := .mk) : Prop where
  get : ∃ a M, r = .ok a M ∧ Q a M
structure OkS (r : SR) (Q : Fl → Env → Mem → Prop) (t : Tag Q := .mk) : Prop where
  get : ∃ f env M, r = .ok f env M ∧ Q f env M
/-- what is to be shown at an end (a Tag: left as it was written) -/
@[reducible] def Hold {α : Type} (Q : α → Mem → Prop) (a : α) (M : Mem) (_ : Tag Q := .mk) : Prop := Q a M
@[reducible] def HoldE (Q : Env → Mem → Prop) (a : Env) (M : Mem) (_ : Tag Q := .mk) : Prop := Q a M
@[reducible] def HoldS (Q : Fl → Env → Mem → Prop) (f : Fl) (env : Env) (M : Mem) (_ : Tag Q := .mk) : Prop := Q f env M
theorem Ok.here {α : Type} {a : α} {M : Mem} {Q : α → Mem → Prop} {t : Tag Q} (h : Ok (.ok a M) Q t) : Q a M := by
  obtain ⟨_, _, e, q⟩ := h.get
  cases e
  exact q
theorem OkS.here {f : Fl} {env : Env} {M : Mem} {Q : Fl → Env → Mem → Prop} {t : Tag Q} (h : OkS (.ok f env M) Q t) : Q f env M := by
  obtain ⟨_, _, _, e, q⟩ := h.get
  cases e
  exact q
theorem Ok_ok {α : Type} {a : α} {M : Mem} {Q : α → Mem → Prop} {t : Tag Q} : Ok (.ok a M) Q t = Hold Q a M := propext ⟨fun h => h.here, fun q => ⟨a, M, rfl, q⟩⟩
theorem OkS_ok {f : Fl} {env : Env} {M : Mem} {Q : Fl → Env → Mem → Prop} {t : Tag Q} : OkS (.ok f env M) Q t = HoldS Q f env M := propext ⟨fun h => h.here, fun q => ⟨f, env, M, rfl, q⟩⟩
theorem Ok.imp {α : Type} {r : Res α} {Q Q' : α → Mem → Prop} (h : Ok r Q) (w : ∀ a M, Q a M → Q' a M) : Ok r Q' := by
  obtain ⟨a, M, e, q⟩ := h.get
  exact ⟨a, M, e, w a M q⟩
theorem OkS.imp {r : SR} {Q Q' : Fl → Env → Mem → Prop} (h : OkS r Q) (w : ∀ a e M, Q a e M → Q' a e M) : OkS r Q' := by
  obtain ⟨f, env, M, e, q⟩ := h.get
  exact ⟨f, env, M, e, w f env M q⟩
/-- behind a call -/
theorem Ok.bind {α β : Type} {r : Res α} {k : α → Mem → Res β} {P : α → Mem → Prop} {Q : β → Mem → Prop} (h : Ok r P) (w : ∀ a M, P a M → Ok (k a M) Q) : Ok (bnd r k) Q := by
  obtain ⟨a, M, rfl, q⟩ := h.get
  exact w a M q
theorem Ok.st {α : Type} {r : Res α} {env : Env} {k : α → Mem → SR} {P : α → Mem → Prop} {Q : Fl → Env → Mem → Prop} (h : Ok r P) (w : ∀ a M, P a M → OkS (k a M) Q) : OkS (stk r env k) Q := by
  obtain ⟨a, M, rfl, q⟩ := h.get
  exact w a M q
/-- a def's result -/
theorem OkS.fn {r : SR} {Q : D → Mem → Prop} (h : OkS r fun f _ M => match f with | .next => Q .non M | .ret d => Q d M | _ => False) : Ok (fnRes r) Q := by
  obtain ⟨f, env, M, rfl, q⟩ := h.get
  cases f with
  | next => exact ⟨_, _, rfl, q⟩
  | ret d => exact ⟨_, _, rfl, q⟩
  | brk => exact q.elim
  | cont => exact q.elim
theorem OkS.seq {r : SR} {k : Env → Mem → SR} {Q : Fl → Env → Mem → Prop} (h : OkS r fun f env M => match f with | .next => OkS (k env M) Q | f => Q f env M) : OkS (seqS r k) Q := by
  obtain ⟨f, env, M, rfl, q⟩ := h.get
  cases f with
  | next => exact q
  | brk => exact ⟨_, _, _, rfl, q⟩
  | cont => exact ⟨_, _, _, rfl, q⟩
  | ret d => exact ⟨_, _, _, rfl, q⟩
theorem fr_ret {d : D} {env : Env} {M : Mem} : fnRes (.ok (.ret d) env M) = .ok d M := (rfl)
theorem fr_next {env : Env} {M : Mem} : fnRes (.ok .next env M) = .ok .non M := (rfl)
theorem run_fn {p : Prog} {k f : Nat} {F : Fn} {ds : List D} {M : Mem} (h : p.fn f = some F) (hl : ds.length = F.np) : run p (k + 1) f ds M = tidyR M (fnRes (evSs ⟨run p k, p.gl⟩ F.body (ds.map some ++ List.replicate (F.nn - ds.length) none) M)) := by
  show (match p.fn f with | some fn => runFn ⟨run p k, p.gl⟩ fn ds M | none => .bad) = _
  rw [h]
  show runFn _ F ds M = _
  unfold runFn
  rw [if_pos hl]

def noneN : Nat → Env
  | 0 => []
  | n + 1 => none :: noneN n
def envOf : List D → Nat → Env
  | [], n => noneN n
  | d :: ds, n => some d :: envOf ds n
theorem envOf_cons {d : D} {ds : List D} {n : Nat} : envOf (d :: ds) n = some d :: envOf ds n := (rfl)
theorem envOf_nil {n : Nat} : envOf [] n = noneN n := (rfl)
theorem noneN_eq : ∀ (n : Nat), List.replicate n none = noneN n
  | 0 => rfl
  | n + 1 => by rw [List.replicate_succ, noneN_eq n]; rfl
theorem envOf_eq : ∀ (ds : List D) (n : Nat), ds.map some ++ List.replicate n none = envOf ds n
  | [], n => noneN_eq n
  | d :: ds, n => by rw [envOf_cons, ← envOf_eq ds n]; rfl
/-- where a def's value ends -/
def fnEnd (Q : D → Mem → Prop) : Fl → Env → Mem → Prop := fun f _ M => match f with
  | .next => Q .non M
  | .ret d => Q d M
  | _ => False
theorem fe_next {Q : D → Mem → Prop} {env : Env} {M : Mem} {t : Tag (fnEnd Q)} : HoldS (fnEnd Q) .next env M t = Hold Q .non M := (rfl)
theorem fe_ret {Q : D → Mem → Prop} {d : D} {env : Env} {M : Mem} {t : Tag (fnEnd Q)} : HoldS (fnEnd Q) (.ret d) env M t = Hold Q d M := (rfl)
theorem run_raw {p : Prog} {k f : Nat} {F : Fn} {ds : List D} {M : Mem} {Q : D → Mem → Prop} (h : p.fn f = some F) (hl : ds.length = F.np) (w : OkS (evSs ⟨run p k, p.gl⟩ F.body (envOf ds (F.nn - F.np)) M) (fnEnd Q)) :
    ∃ d M', Q d M' ∧ run p (k + 1) f ds M = .ok (tidyD M d M').1 (tidyD M d M').2 := by
  rw [run_fn h hl, envOf_eq, hl]
  generalize evSs _ _ _ _ = R at w ⊢
  obtain ⟨d, M', e, q⟩ := (OkS.fn w).get
  rw [e]
  exact ⟨d, M', q, rfl⟩
/-- .. behind a loop: P -/
def turnEnd' (P : Env → Mem → Prop) (Q : Fl → Env → Mem → Prop) : Fl → Env → Mem → Prop := fun f env M => match f with
  | .next => P env M
  | f => Q f env M
theorem te_next {P : Env → Mem → Prop} {Q : Fl → Env → Mem → Prop} {env : Env} {M : Mem} {t : Tag (turnEnd' P Q)} : HoldS (turnEnd' P Q) .next env M t = HoldE P env M := (rfl)
theorem te_ret {P : Env → Mem → Prop} {Q : Fl → Env → Mem → Prop} {d : D} {env : Env} {M : Mem} {t : Tag (turnEnd' P Q)} : HoldS (turnEnd' P Q) (.ret d) env M t = HoldS Q (.ret d) env M := (rfl)
theorem seq_ok {r : SR} {k : Env → Mem → SR} {Q : Fl → Env → Mem → Prop} (P : Env → Mem → Prop) (h : OkS r (turnEnd' P Q)) (w : ∀ env M, P env M → OkS (k env M) Q) : OkS (seqS r k) Q := by
  obtain ⟨f, env, M, rfl, q⟩ := h.get
  cases f with
  | next => exact w _ _ q
  | brk => exact ⟨_, _, _, rfl, q⟩
  | cont => exact ⟨_, _, _, rfl, q⟩
  | ret d => exact ⟨_, _, _, rfl, q⟩

/-! ### loops -/
/-- where a loop's body ends: on with the next turn, or behind the loop -/
def turnEnd (J : Env → Mem → Prop) (Q : Fl → Env → Mem → Prop) : Fl → Env → Mem → Prop := fun f env M => match f with
  | .next => J env M
  | .cont => J env M
  | .brk => Q .next env M
  | .ret d => Q (.ret d) env M
theorem tn_next {J : Env → Mem → Prop} {Q : Fl → Env → Mem → Prop} {env : Env} {M : Mem} {t : Tag (turnEnd J Q)} : HoldS (turnEnd J Q) .next env M t = HoldE J env M := (rfl)
theorem tn_cont {J : Env → Mem → Prop} {Q : Fl → Env → Mem → Prop} {env : Env} {M : Mem} {t : Tag (turnEnd J Q)} : HoldS (turnEnd J Q) .cont env M t = HoldE J env M := (rfl)
theorem tn_brk {J : Env → Mem → Prop} {Q : Fl → Env → Mem → Prop} {env : Env} {M : Mem} {t : Tag (turnEnd J Q)} : HoldS (turnEnd J Q) .brk env M t = HoldS Q .next env M := (rfl)
theorem tn_ret {J : Env → Mem → Prop} {Q : Fl → Env → Mem → Prop} {d : D} {env : Env} {M : Mem} {t : Tag (turnEnd J Q)} : HoldS (turnEnd J Q) (.ret d) env M t = HoldS Q (.ret d) env M := (rfl)
theorem for_inv {body : D → Env → Mem → SR} {Q : Fl → Env → Mem → Prop} (I : List D → Env → Mem → Prop) : ∀ {xs : List D} {env : Env} {M : Mem}, I xs env M →
    (∀ d ds env M, I (d :: ds) env M → OkS (body d env M) (turnEnd (I ds) Q)) → (∀ env M, I [] env M → Q .next env M) → OkS (forSeq body xs env M) Q
  | [], env, M, h, _, e => ⟨_, _, _, rfl, e env M h⟩
  | d :: ds, env, M, h, b, e => by
    obtain ⟨f, env', M', e1, q⟩ := (b d ds env M h).get
    unfold forSeq
    rw [e1]
    cases f with
    | next => exact for_inv I q b e
    | cont => exact for_inv I q b e
    | brk => exact ⟨_, _, _, rfl, q⟩
    | ret v => exact ⟨_, _, _, rfl, q⟩
/-- a loop over lo, lo + 1, .. -/
theorem for_rng {body : D → Env → Mem → SR} {Q : Fl → Env → Mem → Prop} (I : Nat → Env → Mem → Prop) {lo hi : Int} {env : Env} {M : Mem} (h : I 0 env M)
    (b : ∀ (j : Nat) env M, I j env M → lo + (j : Int) < hi → OkS (body (.int (lo + (j : Int))) env M) (turnEnd (I (j + 1)) Q)) (e : ∀ env M, I (hi - lo).toNat env M → Q .next env M) : OkS (forSeq body (rngD lo hi) env M) Q := by
  have key : ∀ (c j : Nat) (env : Env) (M : Mem), j + c = (hi - lo).toNat → I j env M → OkS (forSeq body ((List.range' j c).map fun (k : Nat) => D.int (lo + (k : Int))) env M) Q := by
    intro c
    induction c with
    | zero =>
      intro j env M hj hI
      simp only [Nat.add_zero] at hj
      subst hj
      exact ⟨_, _, _, rfl, e env M hI⟩
    | succ c ih =>
      intro j env M hj hI
      rw [List.range'_succ, List.map_cons]
      obtain ⟨f, env', M', e1, q⟩ := (b j env M hI (by omega)).get
      unfold forSeq
      rw [e1]
      cases f with
      | next => exact ih (j + 1) env' M' (by omega) q
      | cont => exact ih (j + 1) env' M' (by omega) q
      | brk => exact ⟨_, _, _, rfl, q⟩
      | ret v => exact ⟨_, _, _, rfl, q⟩
  have := key (hi - lo).toNat 0 env M (by omega) h
  unfold rngD
  rw [List.range_eq_range']
  exact this
/-- while: a measure, an invariant -/
theorem while_inv {c : Env → Mem → Res Bool} {body : Env → Mem → SR} {Q : Fl → Env → Mem → Prop} (I : Nat → Env → Mem → Prop) :
    ∀ {n k : Nat} {env : Env} {M : Mem}, I n env M → n < k → (∀ n env M, I n env M → Ok (c env M) fun b M1 => match b with
      | true => OkS (body env M1) (turnEnd (fun env' M' => ∃ m, m < n ∧ I m env' M') Q)
      | false => Q .next env M1) → OkS (whileN c body k env M) Q := by
  intro n k
  induction k generalizing n with
  | zero => intro env M _ h; omega
  | succ k ih =>
    intro env M h hk b
    obtain ⟨z, M1, e1, q⟩ := (b n env M h).get
    unfold whileN
    rw [e1]
    cases z with
    | false => exact ⟨_, _, _, rfl, q⟩
    | true =>
      obtain ⟨f, env', M', e2, q2⟩ := OkS.get q
      simp only [e2]
      cases f with
      | next =>
        obtain ⟨m, hm, hI⟩ := q2
        exact ih hI (by omega) b
      | cont =>
        obtain ⟨m, hm, hI⟩ := q2
        exact ih hI (by omega) b
      | brk => exact ⟨_, _, _, rfl, q2⟩
      | ret v => exact ⟨_, _, _, rfl, q2⟩
/-- a comprehension over items -/
theorem lc_inv {turn : D → Mem → Res (Option D)} {n0 : Nat} {Q : Unit → Mem → Prop} (I : List D → List D → Mem → Prop) : ∀ {xs ys : List D} {M : Mem}, I xs ys M → M[n0]? = some (.lst ys) → ys.length + xs.length ≤ sizeLine →
    (∀ d ds ys M, I (d :: ds) ys M → M[n0]? = some (.lst ys) → Ok (turn d M) fun o M' => M'[n0]? = some (.lst ys) ∧ match o with
      | some y => I ds (ys ++ [y]) (M'.set n0 (.lst (ys ++ [y])))
      | none => I ds ys M') → (∀ ys M, I [] ys M → M[n0]? = some (.lst ys) → Q () M) → Ok (lcSeq turn n0 xs M) Q
  | [], ys, M, h, hn, _, _, e => ⟨_, _, rfl, e ys M h hn⟩
  | d :: ds, ys, M, h, hn, hl, b, e => by
    obtain ⟨o, M', e1, hn', q⟩ := (b d ds ys M h hn).get
    unfold lcSeq
    rw [e1]
    have hlt : n0 < M'.length := (List.getElem?_eq_some_iff.mp hn').1
    cases o with
    | none => exact lc_inv I q hn' (by simp at hl; omega) b e
    | some y =>
      show Ok (match appendAt n0 y M' with | some M'' => lcSeq turn n0 ds M'' | none => .bad) Q
      unfold appendAt
      rw [hn']
      simp only [List.length_cons] at hl
      simp only
      rw [if_pos (by omega)]
      exact lc_inv I q (by rw [List.getElem?_set_self hlt]) (by simp only [List.length_append, List.length_cons, List.length_nil]; omega) b e

/-! ### memory -/
/-- all but the things in S stays as it is -/
structure Keep (S : List Nat) (M M' : Mem) : Prop where
  len : M.length ≤ M'.length
  at_ : ∀ i, i < M.length → i ∉ S → M'[i]? = M[i]?
section
variable {S : List Nat} {M M1 M2 : Mem}
theorem Keep.refl : Keep S M M := ⟨Nat.le_refl _, fun _ _ _ => rfl⟩
theorem Keep.trans (a : Keep S M M1) (b : Keep S M1 M2) : Keep S M M2 := ⟨Nat.le_trans a.len b.len, fun i h n => (b.at_ i (Nat.lt_of_lt_of_le h a.len) n).trans (a.at_ i h n)⟩
theorem Keep.sub {S' : List Nat} (a : Keep S M M1) (h : ∀ i, i ∈ S → i ∈ S') : Keep S' M M1 := ⟨a.len, fun i hi n => a.at_ i hi fun z => n (h i z)⟩
theorem Keep.get {i : Nat} {o : MO} (a : Keep S M M1) (h : M[i]? = some o) (n : i ∉ S) : M1[i]? = some o := (a.at_ i (List.getElem?_eq_some_iff.mp h).1 n).trans h
theorem Keep.new {o : MO} : Keep S M (M ++ [o]) := ⟨by simp, fun i h _ => List.getElem?_append_left h⟩
theorem Keep.news {l : Mem} : Keep S M (M ++ l) := ⟨by simp, fun i h _ => List.getElem?_append_left h⟩
theorem Keep.set {i : Nat} {o : MO} (h : i ∈ S) : Keep S M (M.set i o) := ⟨by simp, fun j hj n => by
  rw [List.getElem?_set_ne]
  rintro rfl
  exact n h⟩
/-- a thing that is not there in M may change -/
theorem Keep.fresh {i : Nat} {o : MO} (a : Keep S M M1) (h : M.length ≤ i) : Keep S M (M1.set i o) := ⟨by simpa using a.len, fun j hj n => by
  rw [List.getElem?_set_ne (by omega)]
  exact a.at_ j hj n⟩
theorem Keep.drop_fresh {i : Nat} (a : Keep (i :: S) M M1) (h : M.length ≤ i) : Keep S M M1 := ⟨a.len, fun j hj n => a.at_ j hj (by
  intro z
  rcases List.mem_cons.mp z with e | e
  · omega
  · exact n e)⟩
theorem lt_of_get {i : Nat} {o : MO} (h : M[i]? = some o) : i < M.length := (List.getElem?_eq_some_iff.mp h).1
theorem get_new {o : MO} : (M ++ [o])[M.length]? = some o := by simp
end

/-! ### what is left is dropped -/
section
variable {M M' : Mem}
theorem take_self : M.take M.length = M := List.take_length
theorem tidyM_same {b : Bool} : tidyM M b M = M := by
  unfold tidyM
  split
  · exact take_self
  · rfl
theorem tidyM_len {b : Bool} (h : M'.length = M.length) : tidyM M b M' = M' := by
  unfold tidyM
  split
  · rw [← h, List.take_length]
  · rfl
theorem tidyD_len {d : D} (h : M'.length = M.length) : tidyD M d M' = (d, M') := by
  cases d with
  | obj k =>
    show (if k < M.length then _ else _) = _
    split
    · rw [tidyM_len h]
    · rename_i hk
      have : M'[k]? = none := List.getElem?_eq_none (by omega)
      rw [this]
  | _ => show (_, tidyM M _ M') = _; rw [tidyM_len h]
theorem tidyD_same {d : D} : tidyD M d M = (d, M) := tidyD_len rfl
theorem tidyR_same {d : D} : tidyR M (.ok d M) = .ok d M := by
  show Res.ok (tidyD M d M).1 (tidyD M d M).2 = _
  rw [tidyD_same]
theorem tidyR_len {d : D} (h : M'.length = M.length) : tidyR M (.ok d M') = .ok d M' := by
  show Res.ok (tidyD M d M').1 (tidyD M d M').2 = _
  rw [tidyD_len h]
theorem tidyOk_keep (k : Keep [] M M') : TidyOk M M' := ⟨k.len, fun i hi => .inl (k.at_ i hi (by simp))⟩
theorem take_keep (k : Keep [] M M') : M'.take M.length = M := by
  refine List.ext_getElem? fun i => ?_
  by_cases h : i < M.length
  · rw [List.getElem?_take_of_lt h, k.at_ i h (by simp)]
  · rw [List.getElem?_eq_none (by rw [List.length_take]; omega), List.getElem?_eq_none (by omega)]
theorem tidyM_keep {b : Bool} (hb : b = true) (k : Keep [] M M') : tidyM M b M' = M := by
  unfold tidyM
  rw [if_pos ⟨hb, tidyOk_keep k⟩, take_keep k]
theorem tidyD_ok {d : D} (hb : bel M.length d = true) (ok : TidyOk M M') : tidyD M d M' = (d, M'.take M.length) := by
  have plain : ∀ b : Bool, b = true → tidyM M b M' = M'.take M.length := fun b hb => by
    unfold tidyM
    rw [if_pos ⟨hb, ok⟩]
  cases d with
  | obj k =>
    have hk : k < M.length := of_decide_eq_true hb
    show (if k < M.length then _ else _) = _
    rw [if_pos hk, plain true rfl]
  | _ => show (_, tidyM M _ M') = _; rw [plain _ hb]
theorem tidyD_keep {d : D} (hb : bel M.length d = true) (k : Keep [] M M') : tidyD M d M' = (d, M) := by rw [tidyD_ok hb (tidyOk_keep k), take_keep k]
theorem tidyR_keep {d : D} (hb : bel M.length d = true) (k : Keep [] M M') : tidyR M (.ok d M') = .ok d M := by
  show Res.ok (tidyD M d M').1 (tidyD M d M').2 = _
  rw [tidyD_keep hb k]
theorem tidyD_obj {k : Nat} {o : MO} (hk : M.length ≤ k) (ho : M'[k]? = some o) (hb : belM M.length o = true) (ok : TidyOk M M') : tidyD M (.obj k) M' = (.obj M.length, M'.take M.length ++ [o]) := by
  show (if k < M.length then _ else _) = _
  rw [if_neg (by omega), ho]
  show @ite _ _ (Classical.propDecidable _) _ _ = _
  rw [if_pos ⟨hb, ok⟩]
theorem tidyD_new {k : Nat} {o : MO} (hk : M.length ≤ k) (ho : M'[k]? = some o) (hb : belM M.length o = true) (K : Keep [] M M') : tidyD M (.obj k) M' = (.obj M.length, M ++ [o]) := by rw [tidyD_obj hk ho hb (tidyOk_keep K), take_keep K]
end
/-- a def that leaves the memory alone -/
theorem run_eq {p : Prog} {k f : Nat} {F : Fn} {ds : List D} {M : Mem} {d : D} (h : p.fn f = some F) (hl : ds.length = F.np) (w : OkS (evSs ⟨run p k, p.gl⟩ F.body (envOf ds (F.nn - F.np)) M) (fnEnd fun d' M' => d' = d ∧ M' = M)) : run p (k + 1) f ds M = .ok d M := by
  obtain ⟨d', M', ⟨rfl, rfl⟩, e⟩ := run_raw h hl w
  rw [e, tidyD_same]
/-- a def that only adds, what it gives needs nothing of that -/
theorem run_pure {p : Prog} {k f : Nat} {F : Fn} {ds : List D} {M : Mem} {d : D} (h : p.fn f = some F) (hl : ds.length = F.np) (hb : bel M.length d = true) (w : OkS (evSs ⟨run p k, p.gl⟩ F.body (envOf ds (F.nn - F.np)) M) (fnEnd fun d' M' => d' = d ∧ Keep [] M M')) : run p (k + 1) f ds M = .ok d M := by
  obtain ⟨d', M', ⟨rfl, K⟩, e⟩ := run_raw h hl w
  rw [e, tidyD_keep hb K]
/-- .. that gives one new thing -/
theorem run_new {p : Prog} {k f : Nat} {F : Fn} {ds : List D} {M : Mem} {o : MO} (h : p.fn f = some F) (hl : ds.length = F.np) (hb : belM M.length o = true) (w : OkS (evSs ⟨run p k, p.gl⟩ F.body (envOf ds (F.nn - F.np)) M) (fnEnd fun d' M' => ∃ m, d' = .obj m ∧ M.length ≤ m ∧ M'[m]? = some o ∧ Keep [] M M')) : run p (k + 1) f ds M = .ok (.obj M.length) (M ++ [o]) := by
  obtain ⟨d', M', ⟨m, rfl, h1, h2, K⟩, e⟩ := run_raw h hl w
  rw [e, tidyD_new h1 h2 hb K]
/-- .. of which only some is known -/
theorem run_pureE {p : Prog} {k f : Nat} {F : Fn} {ds : List D} {M : Mem} {P : D → Prop} (h : p.fn f = some F) (hl : ds.length = F.np) (hb : ∀ d, P d → bel M.length d = true) (w : OkS (evSs ⟨run p k, p.gl⟩ F.body (envOf ds (F.nn - F.np)) M) (fnEnd fun d' M' => P d' ∧ Keep [] M M')) : ∃ d, run p (k + 1) f ds M = .ok d M ∧ P d := by
  obtain ⟨d', M', ⟨q, K⟩, e⟩ := run_raw h hl w
  exact ⟨d', by rw [e, tidyD_keep (hb d' q) K], q⟩
theorem run_newE {p : Prog} {k f : Nat} {F : Fn} {ds : List D} {M : Mem} {P : MO → Prop} (h : p.fn f = some F) (hl : ds.length = F.np) (hb : ∀ o, P o → belM M.length o = true) (w : OkS (evSs ⟨run p k, p.gl⟩ F.body (envOf ds (F.nn - F.np)) M) (fnEnd fun d' M' => ∃ m o, d' = .obj m ∧ M.length ≤ m ∧ M'[m]? = some o ∧ P o ∧ Keep [] M M')) : ∃ o, run p (k + 1) f ds M = .ok (.obj M.length) (M ++ [o]) ∧ P o := by
  obtain ⟨d', M', ⟨m, o, rfl, h1, h2, h3, K⟩, e⟩ := run_raw h hl w
  exact ⟨o, by rw [e, tidyD_new h1 h2 (hb o h3) K], h3⟩
theorem bels_iff {n : Nat} : ∀ {xs : List D}, bels n xs = true ↔ ∀ x ∈ xs, bel n x = true
  | [] => by simp [bels]
  | x :: xs => by
    show (bel n x && bels n xs) = true ↔ _
    rw [Bool.and_eq_true, bels_iff (xs := xs)]
    simp
mutual
theorem bel_mono {n n' : Nat} (h : n ≤ n') : ∀ {d : D}, bel n d = true → bel n' d = true
  | .non, _ => rfl
  | .bl _, _ => rfl
  | .int _, _ => rfl
  | .str _, _ => rfl
  | .tup ds, b => bels_mono h (ds := ds) b
  | .rol ds, b => bels_mono h (ds := ds) b
  | .obj k, b => decide_eq_true (Nat.lt_of_lt_of_le (of_decide_eq_true b) h)
theorem bels_mono {n n' : Nat} (h : n ≤ n') : ∀ {ds : List D}, bels n ds = true → bels n' ds = true
  | [], _ => rfl
  | d :: ds, b => by
    have b : (bel n d && bels n ds) = true := b
    rw [Bool.and_eq_true] at b
    show (bel n' d && bels n' ds) = true
    rw [bel_mono h b.1, bels_mono h b.2]; rfl
end
end Py

set_option Elab.async false
set_option autoImplicit false
set_option linter.all false
set_option maxRecDepth 100000
set_option maxHeartbeats 4000000
/-! P2: the operations' equations. -/
namespace Py
open PySem L2
section
variable {M : Mem} {i j : Int} {s t : List Nat} {xs ys : List D} {b c : Bool} {d e : D} {n m : Nat}
theorem o_add : opBin .add (.int i) (.int j) M = some (.int (i + j), M) := (rfl)
theorem o_sub : opBin .sub (.int i) (.int j) M = some (.int (i - j), M) := (rfl)
theorem o_mul (h : (small i || small j) = true) : opBin .mul (.int i) (.int j) M = some (.int (i * j), M) := if_pos h
theorem o_mod (h : 0 < j) : opBin .mod (.int i) (.int j) M = some (.int (i % j), M) := if_pos h
theorem o_fdiv (h : 0 < j ∧ j < 1073741824) : opBin .fdiv (.int i) (.int j) M = some (.int (i / j), M) := if_pos h
theorem o_pow (h : 0 ≤ j ∧ j ≤ 1000000 ∧ i.natAbs < 2 ^ 64) : opBin .pow (.int i) (.int j) M = some (.int (i ^ j.toNat), M) := if_pos h
theorem o_addT (h : xs.length + ys.length ≤ sizeLine) : opBin .add (.tup xs) (.tup ys) M = some (.tup (xs ++ ys), M) := if_pos h
theorem o_addS (h : s.length + t.length ≤ sizeLine) : opBin .add (.str s) (.str t) M = some (.str (s ++ t), M) := if_pos h
theorem o_addL (h1 : M[n]? = some (.lst xs)) (h2 : M[m]? = some (.lst ys)) (h : xs.length + ys.length ≤ sizeLine) : opBin .add (.obj n) (.obj m) M = some (.obj M.length, M ++ [MO.lst (xs ++ ys)]) := by
  show (match M[n]?, M[m]? with | some (.lst xs), some (.lst ys) => _ | _, _ => _) = _
  rw [h1, h2]
  exact if_pos h
theorem c_eqI : opCmp .eq (.int i) (.int j) M = some (decide (i = j)) := (rfl)
theorem c_eqS : opCmp .eq (.str s) (.str t) M = some (s == t) := (rfl)
theorem c_eqB : opCmp .eq (.bl b) (.bl c) M = some (b == c) := (rfl)
theorem c_neI : opCmp .ne (.int i) (.int j) M = some (!decide (i = j)) := (rfl)
theorem c_neS : opCmp .ne (.str s) (.str t) M = some (!(s == t)) := (rfl)
theorem c_neB : opCmp .ne (.bl b) (.bl c) M = some (!(b == c)) := (rfl)
theorem c_lt : opCmp .lt (.int i) (.int j) M = some (decide (i < j)) := (rfl)
theorem c_le : opCmp .le (.int i) (.int j) M = some (decide (i ≤ j)) := (rfl)
theorem c_gt : opCmp .gt (.int i) (.int j) M = some (decide (j < i)) := (rfl)
theorem c_ge : opCmp .ge (.int i) (.int j) M = some (decide (j ≤ i)) := (rfl)
theorem c_eqN : opCmp .is .non .non M = some true := (rfl)
theorem tr_bl : truth (.bl b) M = some b := (rfl)
theorem tr_int : truth (.int i) M = some (i != 0) := (rfl)
theorem tr_tup : truth (.tup xs) M = some (!xs.isEmpty) := (rfl)
theorem tr_non : truth .non M = some false := (rfl)
theorem tr_str (h : s.length ≤ sizeLine) : truth (.str s) M = some (!s.isEmpty) := if_pos h
theorem tr_lst (h : M[n]? = some (.lst xs)) : truth (.obj n) M = some (!xs.isEmpty) := by
  show (match M[n]? with | some (.lst xs) => some (!xs.isEmpty) | some (.dK kvs) => some (!kvs.isEmpty) | _ => none) = _
  rw [h]
theorem i_tup : opIx (.tup xs) (.int i) M = atI xs i := (rfl)
theorem i_rol : opIx (.rol xs) (.int i) M = atI xs i := (rfl)
theorem i_lst (h : M[n]? = some (.lst xs)) : opIx (.obj n) (.int i) M = atI xs i := by
  show (match M[n]? with | some (.lst xs) => atI xs i | some (.dK kvs) => (keyOf (.int i)).bind fun k => keyed k kvs | some (.dL kvs) => (keyOf (.int i)).bind fun k => keyed k kvs | _ => none) = _
  rw [h]
theorem at_lt {α : Type} {zs : List α} (h0 : 0 ≤ i) (h1 : i < (zs.length : Int)) : atI zs i = zs[i.toNat]? := by
  unfold atI ixN
  rw [if_pos h0, if_pos h1]; rfl
theorem at_0 {α : Type} {a : α} {l : List α} : atI (a :: l) 0 = some a := by
  unfold atI ixN
  rw [if_pos (by omega), if_pos (by simp only [List.length_cons]; omega)]; rfl
theorem at_1 {α : Type} {a a1 : α} {l : List α} : atI (a :: a1 :: l) 1 = some a1 := by
  unfold atI ixN
  rw [if_pos (by omega), if_pos (by simp only [List.length_cons]; omega)]; rfl
theorem at_2 {α : Type} {a a1 a2 : α} {l : List α} : atI (a :: a1 :: a2 :: l) 2 = some a2 := by
  unfold atI ixN
  rw [if_pos (by omega), if_pos (by simp only [List.length_cons]; omega)]; rfl
theorem at_3 {α : Type} {a a1 a2 a3 : α} {l : List α} : atI (a :: a1 :: a2 :: a3 :: l) 3 = some a3 := by
  unfold atI ixN
  rw [if_pos (by omega), if_pos (by simp only [List.length_cons]; omega)]; rfl
theorem b_lenT : opBi .len [.tup xs] M = some (.int xs.length, M) := (rfl)
theorem b_lenR : opBi .len [.rol xs] M = some (.int xs.length, M) := (rfl)
theorem b_lenS (h : s.length ≤ sizeLine) : opBi .len [.str s] M = some (.int s.length, M) := if_pos h
theorem b_lenL (h : M[n]? = some (.lst xs)) : opBi .len [.obj n] M = some (.int xs.length, M) := by
  show (match M[n]? with | some (.lst xs) => some (D.int xs.length, M) | some (.dK xs) => _ | _ => none) = _
  rw [h]
theorem b_int : opBi .int [.int i] M = some (.int i, M) := (rfl)
theorem b_intB : opBi .int [.bl b] M = some (.int (if b then 1 else 0), M) := (rfl)
theorem b_abs : opBi .abs [.int i] M = some (.int (if i < 0 then -i else i), M) := (rfl)
theorem b_max2 : opBi .max2 [.int i, .int j] M = some (.int (if j > i then j else i), M) := (rfl)
theorem b_min2 : opBi .min2 [.int i, .int j] M = some (.int (if j < i then j else i), M) := (rfl)
theorem b_ord : opBi .ord [.str [n]] M = some (.int n, M) := (rfl)
theorem b_tupT : opBi .tuple [.tup xs] M = some (.tup xs, M) := (rfl)
theorem b_tupL (h : M[n]? = some (.lst xs)) : opBi .tuple [.obj n] M = some (.tup xs, M) := by
  show (match M[n]? with | some (.lst xs) => some (D.tup xs, M) | _ => none) = _
  rw [h]
theorem b_listT : opBi .list [.tup xs] M = some (.obj M.length, M ++ [MO.lst xs]) := (rfl)
theorem b_isBb : opBi .isBool [.bl b] M = some (.bl true, M) := (rfl)
theorem b_isBi : opBi .isBool [.int i] M = some (.bl false, M) := (rfl)
theorem b_isBs : opBi .isBool [.str s] M = some (.bl false, M) := (rfl)
theorem b_isBt : opBi .isBool [.tup xs] M = some (.bl false, M) := (rfl)
theorem b_isBn : opBi .isBool [.non] M = some (.bl false, M) := (rfl)
theorem b_isIi : opBi .isInt [.int i] M = some (.bl true, M) := (rfl)
theorem b_isIb : opBi .isInt [.bl b] M = some (.bl true, M) := (rfl)
theorem b_isIs : opBi .isInt [.str s] M = some (.bl false, M) := (rfl)
theorem b_isIt : opBi .isInt [.tup xs] M = some (.bl false, M) := (rfl)
theorem b_isIn : opBi .isInt [.non] M = some (.bl false, M) := (rfl)
theorem b_isSi : opBi .isStr [.int i] M = some (.bl false, M) := (rfl)
theorem b_isSb : opBi .isStr [.bl b] M = some (.bl false, M) := (rfl)
theorem b_isSs : opBi .isStr [.str s] M = some (.bl true, M) := (rfl)
theorem b_isSt : opBi .isStr [.tup xs] M = some (.bl false, M) := (rfl)
theorem b_isSn : opBi .isStr [.non] M = some (.bl false, M) := (rfl)
theorem b_isTi : opBi .isTup [.int i] M = some (.bl false, M) := (rfl)
theorem b_isTb : opBi .isTup [.bl b] M = some (.bl false, M) := (rfl)
theorem b_isTs : opBi .isTup [.str s] M = some (.bl false, M) := (rfl)
theorem b_isTt : opBi .isTup [.tup xs] M = some (.bl true, M) := (rfl)
theorem b_isTn : opBi .isTup [.non] M = some (.bl false, M) := (rfl)
theorem m_app (h : M[n]? = some (.lst xs)) (hl : xs.length < sizeLine) : opMe .append (.obj n) [d] M = some (.non, M.set n (.lst (xs ++ [d]))) := by
  show (match M[n]? with | some (.lst xs) => if xs.length < sizeLine then some (D.non, M.set n (.lst (xs ++ [d]))) else none | _ => none) = _
  rw [h]
  exact if_pos hl
theorem m_ext (h : M[n]? = some (.lst xs)) (h2 : M[m]? = some (.lst ys)) (hl : xs.length + ys.length ≤ sizeLine) : opMe .extend (.obj n) [.obj m] M = some (.non, M.set n (.lst (xs ++ ys))) := by
  show (match M[n]?, M[m]? with | some (.lst xs), some (.lst ys) => if xs.length + ys.length ≤ sizeLine then some (D.non, M.set n (.lst (xs ++ ys))) else none | _, _ => none) = _
  rw [h, h2]
  exact if_pos hl
theorem k_app (h : M[n]? = some (.lst xs)) : meOk .append (.obj n) M = true := by
  show isLst M n = true
  unfold isLst; rw [h]
theorem k_ext (h : M[n]? = some (.lst xs)) : meOk .extend (.obj n) M = true := by
  show isLst M n = true
  unfold isLst; rw [h]
theorem k_pop (h : M[n]? = some (.lst xs)) : meOk .pop (.obj n) M = true := by
  show isLst M n = true
  unfold isLst; rw [h]
theorem k_join : meOk .join (.str s) M = true := (rfl)
theorem wk_tup : walkOf (.tup xs) M = some (.seq xs) := (rfl)
theorem wk_rol : walkOf (.rol xs) M = some (.seq xs) := (rfl)
theorem wk_str : walkOf (.str s) M = some (.seq (s.map fun c => .str [c])) := (rfl)
theorem wk_lst (h : M[n]? = some (.lst xs)) : walkOf (.obj n) M = some (.live n) := by
  show (match M[n]? with | some (.lst _) => some (Wk.live n) | _ => none) = _
  rw [h]
theorem si_lst (h : M[n]? = some (.lst xs)) (h0 : 0 ≤ i) (hk : i < (xs.length : Int)) : opSetIx (.obj n) (.int i) d M = some (M.set n (.lst (xs.set i.toNat d))) := by
  show (match M[n]? with | some (.lst xs) => (ixN xs.length i).map fun j => M.set n (.lst (xs.set j d)) | some (.dK kvs) => _ | _ => none) = _
  rw [h]
  show (ixN xs.length i).map _ = _
  unfold ixN
  rw [if_pos h0, if_pos hk]
  rfl
theorem a_add : opAug .add (.int i) (.int j) = some (.int (i + j)) := (rfl)
theorem a_sub : opAug .sub (.int i) (.int j) = some (.int (i - j)) := (rfl)
end
theorem small_of {i : Int} (h1 : -(2 ^ 64) < i) (h2 : i < 2 ^ 64) : small i = true := decide_eq_true ⟨h1, h2⟩
/-- a loop over a changeable list that stays as it is while it is walked -/
theorem live_seq {body : D → Env → Mem → SR} {n : Nat} {xs : List D} {Q : Fl → Env → Mem → Prop} (I : List D → Env → Mem → Prop) {env : Env} {M : Mem} (h0 : I xs env M) (hx : M[n]? = some (.lst xs))
    (b : ∀ d ds env M, I (d :: ds) env M → M[n]? = some (.lst xs) → OkS (body d env M) (turnEnd (fun env' M' => I ds env' M' ∧ M'[n]? = some (.lst xs)) Q)) (e : ∀ env M, I [] env M → M[n]? = some (.lst xs) → Q .next env M) :
    OkS (forWk body (.live n) env M) Q := by
  have key : ∀ (r i : Nat) (env : Env) (M : Mem), i + r = xs.length → M[n]? = some (.lst xs) → I (xs.drop i) env M → OkS (forLive body n r i env M) Q := by
    intro r
    induction r with
    | zero =>
      intro i env M hi hM hI
      unfold forLive
      rw [hM]
      rw [List.drop_eq_nil_of_le (by omega)] at hI
      have : xs.length ≤ i := by omega
      simp only [this, if_true]
      exact ⟨_, _, _, rfl, e env M hI hM⟩
    | succ r ih =>
      intro i env M hi hM hI
      unfold forLive
      rw [hM]
      have hlt : i < xs.length := by omega
      simp only [List.getElem?_eq_getElem hlt]
      rw [List.drop_eq_getElem_cons hlt] at hI
      obtain ⟨f, env', M', e1, q⟩ := (b _ _ env M hI hM).get
      rw [e1]
      cases f with
      | next => exact ih (i + 1) env' M' (by omega) q.2 q.1
      | cont => exact ih (i + 1) env' M' (by omega) q.2 q.1
      | brk => exact ⟨_, _, _, rfl, q⟩
      | ret v => exact ⟨_, _, _, rfl, q⟩
  have hl : lenAt M n = xs.length := by unfold lenAt; rw [hx]
  show OkS (forLive body n (lenAt M n) 0 env M) Q
  rw [hl]
  exact key xs.length 0 env M (by omega) hx (by simpa using h0)
theorem esLen_nil : esLen .nil = 0 := (rfl)
theorem esLen_cons {e : E} {es : Es} : esLen (.cons e es) = esLen es + 1 := (rfl)
theorem noneN_zero : noneN 0 = [] := (rfl)
theorem noneN_succ {n : Nat} : noneN (n + 1) = none :: noneN n := (rfl)

/-! ### what is told of the memory: left to be read there -/
def lstO {β : Type} (o : Option MO) (k : List D → β) (z : β) (_ : Tag k := .mk) : β := match o with
  | some (.lst xs) => k xs
  | _ => z
def moO {β : Type} (o : Option MO) (k : List D → β) (l : List (Key × D) → β) (z : β) (_ : Tag (k, l) := .mk) : β := match o with
  | some (.lst xs) => k xs
  | some (.dK kvs) => l kvs
  | _ => z
def m3O {β : Type} (o : Option MO) (k : List D → β) (l : List (Key × D) → β) (z : β) (_ : Tag (k, l) := .mk) : β := match o with
  | some (.lst xs) => k xs
  | some (.dK kvs) => l kvs
  | some (.dL kvs) => l kvs
  | _ => z
section
variable {β : Type} {M : Mem} {i j : Int} {s t : List Nat} {xs ys : List D} {b c : Bool} {d e : D} {n m : Nat}
theorem lstO_lst {k : List D → β} {z : β} {t : Tag k} : lstO (some (.lst xs)) k z t = k xs := (rfl)
theorem moO_lst {k : List D → β} {l : List (Key × D) → β} {z : β} {t : Tag (k, l)} : moO (some (.lst xs)) k l z t = k xs := (rfl)
theorem m3O_lst {k : List D → β} {l : List (Key × D) → β} {z : β} {t : Tag (k, l)} : m3O (some (.lst xs)) k l z t = k xs := (rfl)
theorem m3O_dK {kvs : List (Key × D)} {k : List D → β} {l : List (Key × D) → β} {z : β} {t : Tag (k, l)} : m3O (some (.dK kvs)) k l z t = l kvs := (rfl)
theorem m3O_dL {kvs : List (Key × D)} {k : List D → β} {l : List (Key × D) → β} {z : β} {t : Tag (k, l)} : m3O (some (.dL kvs)) k l z t = l kvs := (rfl)
theorem moO_dK {kvs : List (Key × D)} {k : List D → β} {l : List (Key × D) → β} {z : β} {t : Tag (k, l)} : moO (some (.dK kvs)) k l z t = l kvs := (rfl)
theorem z_app : opMe .append (.obj n) [d] M = lstO M[n]? (fun xs => sel (decide (xs.length < sizeLine)) (some (.non, M.set n (.lst (xs ++ [d])))) none) none := by
  show (match M[n]? with | some (.lst xs) => if xs.length < sizeLine then some (D.non, M.set n (.lst (xs ++ [d]))) else none | _ => none) = _
  cases M[n]? with
  | none => rfl
  | some o => cases o with
    | lst xs => simp only [lstO]; by_cases h : xs.length < sizeLine <;> simp [h, sel]
    | _ => rfl
theorem z_ext : opMe .extend (.obj n) [.obj m] M = lstO M[n]? (fun xs => lstO M[m]? (fun ys => sel (decide (xs.length + ys.length ≤ sizeLine)) (some (.non, M.set n (.lst (xs ++ ys)))) none) none) none := by
  show (match M[n]?, M[m]? with | some (.lst xs), some (.lst ys) => if xs.length + ys.length ≤ sizeLine then some (D.non, M.set n (.lst (xs ++ ys))) else none | _, _ => none) = _
  cases M[n]? with
  | none => rfl
  | some o => cases o with
    | lst xs => cases M[m]? with
      | none => rfl
      | some o => cases o with
        | lst ys => simp only [lstO]; by_cases h : xs.length + ys.length ≤ sizeLine <;> simp [h, sel]
        | _ => rfl
    | _ => rfl
theorem z_kapp : meOk .append (.obj n) M = lstO M[n]? (fun _ => true) false := (rfl)
theorem z_kext : meOk .extend (.obj n) M = lstO M[n]? (fun _ => true) false := (rfl)
theorem z_kpop : meOk .pop (.obj n) M = lstO M[n]? (fun _ => true) false := (rfl)
theorem z_pop : opMe .pop (.obj n) [] M = lstO M[n]? (fun xs => (xs[xs.length - 1]?).map fun d => (d, M.set n (.lst xs.dropLast))) none := (rfl)
theorem z_join : opMe .join (.str []) [.obj n] M = lstO M[n]? (fun xs => ifSome (strsOf xs) (fun ss => sel (decide (sumLen ss ≤ 16777216)) (some (.str ss.flatten, M)) none) none) none := by
  show (match itemsOf M (.obj n) with | some xs => (strsOf xs).bind fun ss => if sumLen ss ≤ 16777216 then some (D.str ss.flatten, M) else none | none => none) = _
  show (match (match M[n]? with | some (.lst xs) => some xs | _ => none) with | some xs => (strsOf xs).bind fun ss => if sumLen ss ≤ 16777216 then some (D.str ss.flatten, M) else none | none => none) = _
  cases M[n]? with
  | none => rfl
  | some o => cases o with
    | lst xs =>
      simp only [lstO]
      cases strsOf xs with
      | none => rfl
      | some ss => simp only [ifSome, Option.bind_some]; by_cases h : sumLen ss ≤ 16777216 <;> simp [h, sel]
    | _ => rfl
theorem z_ix : opIx (.obj n) d M = m3O M[n]? (fun xs => asI d (fun i => atI xs i) none) (fun kvs => (keyOf d).bind fun k => keyed k kvs) none := by
  show (match M[n]? with | some (.lst xs) => (match d with | .int i => atI xs i | _ => none) | some (.dK kvs) => (keyOf d).bind fun k => keyed k kvs | some (.dL kvs) => (keyOf d).bind fun k => keyed k kvs | _ => none) = _
  cases M[n]? with
  | none => rfl
  | some o => cases o with
    | lst xs => cases d <;> rfl
    | _ => rfl
theorem z_len : opBi .len [.obj n] M = moO M[n]? (fun xs => some (.int xs.length, M)) (fun xs => some (.int xs.length, M)) none := by
  show (match M[n]? with | some (.lst xs) => some (D.int xs.length, M) | some (.dK xs) => some (D.int xs.length, M) | _ => none) = _
  cases M[n]? with
  | none => rfl
  | some o => cases o <;> rfl
theorem z_tup : opBi .tuple [.obj n] M = lstO M[n]? (fun xs => some (.tup xs, M)) none := (rfl)
theorem z_list : opBi .list [.obj n] M = lstO M[n]? (fun xs => some (.obj M.length, M ++ [MO.lst xs])) none := by
  show (match itemsOf M (.obj n) with | some xs => some (D.obj M.length, M ++ [MO.lst xs]) | none => none) = _
  show (match (match M[n]? with | some (.lst xs) => some xs | _ => none) with | some xs => some (D.obj M.length, M ++ [MO.lst xs]) | none => none) = _
  cases M[n]? with
  | none => rfl
  | some o => cases o <;> rfl
theorem z_sorted : opBi .sorted [.obj n] M = lstO M[n]? (fun xs => (sortD xs).map fun ys => (.obj M.length, M ++ [MO.lst ys])) none := (rfl)
theorem z_sum : opBi .sum [.obj n] M = lstO M[n]? (fun xs => (intsOf xs).map fun ns => (.int ns.sum, M)) none := (rfl)
theorem z_wk : walkOf (.obj n) M = lstO M[n]? (fun _ => some (.live n)) none := (rfl)
theorem z_tr : truth (.obj n) M = moO M[n]? (fun xs => some (!xs.isEmpty)) (fun kvs => some (!kvs.isEmpty)) none := by
  show (match M[n]? with | some (.lst xs) => some (!xs.isEmpty) | some (.dK kvs) => some (!kvs.isEmpty) | _ => none) = _
  cases M[n]? with
  | none => rfl
  | some o => cases o <;> rfl
theorem z_rev : opRev (.obj n) M = lstO M[n]? (fun xs => some (.obj M.length, M ++ [MO.lst xs.reverse])) none := (rfl)
theorem z_add : opBin .add (.obj m) (.obj n) M = lstO M[m]? (fun xs => lstO M[n]? (fun ys => sel (decide (xs.length + ys.length ≤ sizeLine)) (some (.obj M.length, M ++ [MO.lst (xs ++ ys)])) none) none) none := by
  show (match M[m]?, M[n]? with | some (.lst xs), some (.lst ys) => if xs.length + ys.length ≤ sizeLine then some (D.obj M.length, M ++ [MO.lst (xs ++ ys)]) else none | _, _ => none) = _
  cases M[m]? with
  | none => rfl
  | some o => cases o with
    | lst xs => cases M[n]? with
      | none => rfl
      | some o => cases o with
        | lst ys => simp only [lstO]; by_cases h : xs.length + ys.length ≤ sizeLine <;> simp [h, sel]
        | _ => rfl
    | _ => rfl
theorem z_addT : opBin .add (.tup xs) (.tup ys) M = sel (decide (xs.length + ys.length ≤ sizeLine)) (some (.tup (xs ++ ys), M)) none := by
  show (if xs.length + ys.length ≤ sizeLine then some (D.tup (xs ++ ys), M) else none) = _
  by_cases h : xs.length + ys.length ≤ sizeLine <;> simp [h, sel]
theorem z_slice {lo hi : Option Int} : opSlice (.obj n) lo hi M = lstO M[n]? (fun xs => some (.obj M.length, M ++ [MO.lst (cut xs lo hi)])) none := (rfl)
theorem z_sliceT {lo hi : Option Int} : opSlice (.tup xs) lo hi M = some (.tup (cut xs lo hi), M) := (rfl)
theorem z_inD {kvs : List (Key × D)} (h : M[n]? = some (.dK kvs)) : opCmp .isin (.str s) (.obj n) M = some (keyed (.inr ⟨s.toArray⟩) kvs).isSome := by
  show (match M[n]? with | some (.lst xs) => (if flats xs && flat (.str s) && okPy (py (.str s)) && PyData.canLayAll0 (pys xs) then some ((pys xs).any fun z => PyData.eqv z (py (.str s))) else none) | some (.dK kvs) => (match keyOf (.str s) with | some k => some (keyed k kvs).isSome | none => none) | some (.dL kvs) => (match keyOf (.str s) with | some k => some (keyed k kvs).isSome | none => none) | _ => none) = _
  rw [h]; rfl
theorem z_ninD {kvs : List (Key × D)} (h : M[n]? = some (.dK kvs)) : opCmp .notin (.str s) (.obj n) M = some (!(keyed (.inr ⟨s.toArray⟩) kvs).isSome) := by
  show (opCmp .isin (.str s) (.obj n) M).map (!·) = _
  rw [z_inD h]; rfl
theorem z_inL {kvs : List (Key × D)} (h : M[n]? = some (.dL kvs)) : opCmp .isin (.str s) (.obj n) M = some (keyed (.inr ⟨s.toArray⟩) kvs).isSome := by
  show (match M[n]? with | some (.lst xs) => (if flats xs && flat (.str s) && okPy (py (.str s)) && PyData.canLayAll0 (pys xs) then some ((pys xs).any fun z => PyData.eqv z (py (.str s))) else none) | some (.dK kvs) => (match keyOf (.str s) with | some k => some (keyed k kvs).isSome | none => none) | some (.dL kvs) => (match keyOf (.str s) with | some k => some (keyed k kvs).isSome | none => none) | _ => none) = _
  rw [h]; rfl
theorem z_ninL {kvs : List (Key × D)} (h : M[n]? = some (.dL kvs)) : opCmp .notin (.str s) (.obj n) M = some (!(keyed (.inr ⟨s.toArray⟩) kvs).isSome) := by
  show (opCmp .isin (.str s) (.obj n) M).map (!·) = _
  rw [z_inL h]; rfl
theorem z_setD {kvs : List (Key × D)} (h : M[n]? = some (.dK kvs)) (hl : kvs.length < sizeLine) : opSetIx (.obj n) (.str s) d M = some (M.set n (.dK (putKey (.inr ⟨s.toArray⟩) d kvs))) := by
  show (match M[n]? with | some (.lst xs) => _ | some (.dK kvs) => (keyOf (.str s)).bind fun k => if kvs.length < sizeLine then some (M.set n (.dK (putKey k d kvs))) else none | _ => none) = _
  rw [h]
  show (if kvs.length < sizeLine then _ else _) = _
  rw [if_pos hl]
theorem z_isStr : opBi .isStr [.obj n] M = moO M[n]? (fun _ => some (.bl false, M)) (fun _ => some (.bl false, M)) none := by
  show ((match M[n]? with | some (.lst _) => some false | some (.dK _) => some true | _ => none : Option Bool).map fun _ => (D.bl false, M)) = _
  cases M[n]? with
  | none => rfl
  | some o => cases o <;> rfl
theorem z_isInt : opBi .isInt [.obj n] M = moO M[n]? (fun _ => some (.bl false, M)) (fun _ => some (.bl false, M)) none := by
  show ((match M[n]? with | some (.lst _) => some false | some (.dK _) => some true | _ => none : Option Bool).map fun _ => (D.bl false, M)) = _
  cases M[n]? with
  | none => rfl
  | some o => cases o <;> rfl
theorem z_isTup : opBi .isTup [.obj n] M = moO M[n]? (fun _ => some (.bl false, M)) (fun _ => some (.bl false, M)) none := by
  show ((match M[n]? with | some (.lst _) => some false | some (.dK _) => some true | _ => none : Option Bool).map fun _ => (D.bl false, M)) = _
  cases M[n]? with
  | none => rfl
  | some o => cases o <;> rfl
theorem z_isDict : opBi .isDict [.obj n] M = moO M[n]? (fun _ => some (.bl false, M)) (fun _ => some (.bl true, M)) none := by
  show ((match M[n]? with | some (.lst _) => some false | some (.dK _) => some true | _ => none : Option Bool).map fun b => (D.bl b, M)) = _
  cases M[n]? with
  | none => rfl
  | some o => cases o <;> rfl
theorem z_isList : opBi .isList [.obj n] M = moO M[n]? (fun _ => some (.bl true, M)) (fun _ => some (.bl false, M)) none := by
  show ((match M[n]? with | some (.lst _) => some false | some (.dK _) => some true | _ => none : Option Bool).map fun b => (D.bl (!b), M)) = _
  cases M[n]? with
  | none => rfl
  | some o => cases o <;> rfl
end
/-! ### a memory and what stands behind it -/
section
variable {A M l : Mem} {N : Nat} {x y z u w a b : MO}
theorem ga0 (h : A.length = N) : (A ++ x :: l)[N]? = some x := by subst h; simp
theorem ga1 (h : A.length = N) : (A ++ x :: y :: l)[N + 1]? = some y := by subst h; rw [List.getElem?_append_right (by omega), Nat.add_sub_cancel_left]; rfl
theorem ga2 (h : A.length = N) : (A ++ x :: y :: z :: l)[N + 2]? = some z := by subst h; rw [List.getElem?_append_right (by omega), Nat.add_sub_cancel_left]; rfl
theorem ga3 (h : A.length = N) : (A ++ x :: y :: z :: u :: l)[N + 3]? = some u := by subst h; rw [List.getElem?_append_right (by omega), Nat.add_sub_cancel_left]; rfl
theorem ga4 (h : A.length = N) : (A ++ x :: y :: z :: u :: w :: l)[N + 4]? = some w := by subst h; rw [List.getElem?_append_right (by omega), Nat.add_sub_cancel_left]; rfl
theorem ga5 {v : MO} (h : A.length = N) : (A ++ x :: y :: z :: u :: w :: v :: l)[N + 5]? = some v := by subst h; rw [List.getElem?_append_right (by omega), Nat.add_sub_cancel_left]; rfl
theorem ga6 {v t : MO} (h : A.length = N) : (A ++ x :: y :: z :: u :: w :: v :: t :: l)[N + 6]? = some t := by subst h; rw [List.getElem?_append_right (by omega), Nat.add_sub_cancel_left]; rfl
theorem ga7 {v t s : MO} (h : A.length = N) : (A ++ x :: y :: z :: u :: w :: v :: t :: s :: l)[N + 7]? = some s := by subst h; rw [List.getElem?_append_right (by omega), Nat.add_sub_cancel_left]; rfl
theorem sa5 {v : MO} (h : A.length = N) : (A ++ x :: y :: z :: u :: w :: v :: l).set (N + 5) a = A ++ x :: y :: z :: u :: w :: a :: l := by subst h; rw [List.set_append_right _ _ (by omega), Nat.add_sub_cancel_left]; rfl
theorem sa6 {v t : MO} (h : A.length = N) : (A ++ x :: y :: z :: u :: w :: v :: t :: l).set (N + 6) a = A ++ x :: y :: z :: u :: w :: v :: a :: l := by subst h; rw [List.set_append_right _ _ (by omega), Nat.add_sub_cancel_left]; rfl
theorem sa0 (h : A.length = N) : (A ++ x :: l).set N a = A ++ a :: l := by subst h; rw [List.set_append_right _ _ (by omega), Nat.sub_self]; rfl
theorem sa1 (h : A.length = N) : (A ++ x :: y :: l).set (N + 1) a = A ++ x :: a :: l := by subst h; rw [List.set_append_right _ _ (by omega), Nat.add_sub_cancel_left]; rfl
theorem sa2 (h : A.length = N) : (A ++ x :: y :: z :: l).set (N + 2) a = A ++ x :: y :: a :: l := by subst h; rw [List.set_append_right _ _ (by omega), Nat.add_sub_cancel_left]; rfl
theorem sa3 (h : A.length = N) : (A ++ x :: y :: z :: u :: l).set (N + 3) a = A ++ x :: y :: z :: a :: l := by subst h; rw [List.set_append_right _ _ (by omega), Nat.add_sub_cancel_left]; rfl
theorem sa4 (h : A.length = N) : (A ++ x :: y :: z :: u :: w :: l).set (N + 4) a = A ++ x :: y :: z :: u :: a :: l := by subst h; rw [List.set_append_right _ _ (by omega), Nat.add_sub_cancel_left]; rfl
theorem ma_assoc {a b c : Mem} : a ++ b ++ c = a ++ (b ++ c) := List.append_assoc _ _ _
theorem ma_cons {l2 : Mem} : x :: l ++ l2 = x :: (l ++ l2) := (rfl)
theorem ma_nil {l : Mem} : ([] : Mem) ++ l = l := (rfl)
theorem ma_nil' {l : Mem} : l ++ ([] : Mem) = l := List.append_nil l
theorem ma_len {a b : Mem} : (a ++ b).length = a.length + b.length := List.length_append
theorem ma_lcons : (x :: l).length = l.length + 1 := (rfl)
theorem ma_lnil : ([] : Mem).length = 0 := (rfl)
theorem ml_map {α : Type} {f : α → D} {l : List α} : (l.map f).length = l.length := List.length_map f
end
section
variable {A M l B G : Mem} {N g : Nat} {x y z a : MO} {i : Int} {s : List Nat} {b : Bool}
/-- behind some that are not told one by one -/
theorem ge0 (h : A.length = N) (hg : G.length = g) : (A ++ (G ++ x :: l))[N + g]? = some x := by subst h hg; simp
theorem ge1 (h : A.length = N) (hg : G.length = g) : (A ++ (G ++ x :: y :: l))[N + (g + 1)]? = some y := by subst h hg; rw [List.getElem?_append_right (by omega), Nat.add_sub_cancel_left, List.getElem?_append_right (by omega), Nat.add_sub_cancel_left]; rfl
theorem ge2 (h : A.length = N) (hg : G.length = g) : (A ++ (G ++ x :: y :: z :: l))[N + (g + 2)]? = some z := by subst h hg; rw [List.getElem?_append_right (by omega), Nat.add_sub_cancel_left, List.getElem?_append_right (by omega), Nat.add_sub_cancel_left]; rfl
theorem se0 (h : A.length = N) (hg : G.length = g) : (A ++ (G ++ x :: l)).set (N + g) a = A ++ (G ++ a :: l) := by subst h hg; rw [List.set_append_right _ _ (by omega), Nat.add_sub_cancel_left, List.set_append_right _ _ (by omega), Nat.sub_self]; rfl
theorem se1 (h : A.length = N) (hg : G.length = g) : (A ++ (G ++ x :: y :: l)).set (N + (g + 1)) a = A ++ (G ++ x :: a :: l) := by subst h hg; rw [List.set_append_right _ _ (by omega), Nat.add_sub_cancel_left, List.set_append_right _ _ (by omega), Nat.add_sub_cancel_left]; rfl
theorem tidyR_int : tidyR M (.ok (.int i) (M ++ B)) = .ok (.int i) M := tidyR_keep rfl Keep.news
theorem tidyR_bl : tidyR M (.ok (.bl b) (M ++ B)) = .ok (.bl b) M := tidyR_keep rfl Keep.news
theorem tidyR_str : tidyR M (.ok (.str s) (M ++ B)) = .ok (.str s) M := tidyR_keep rfl Keep.news
theorem tidyR_non : tidyR M (.ok .non (M ++ B)) = .ok .non M := tidyR_keep rfl Keep.news
end
theorem lock_ok {Γ : Sig} {tg : Tg} {i n : Nat} {b : Ss} {env : Env} {M : Mem} {kvs : List (Key × D)} {Q : Fl → Env → Mem → Prop} (he : (env[i]?).bind id = some (.obj n)) (hM : M[n]? = some (.dK kvs))
    (w : OkS (forSeq (xBody Γ tg b) (kvs.map fun (kv : Key × D) => keyD kv.1) env (M.set n (.dL kvs))) fun f env' M' => M'[n]? = some (.dL kvs) ∧ Q f env' (M'.set n (.dK kvs))) : OkS (evS Γ (.lock i (.forS tg (.keys i) b)) env M) Q := by
  have e1 : lockAt ((env[i]?).bind id) M = some (n, M.set n (.dL kvs)) := by
    rw [he]
    show (match M[n]? with | some (.dK kvs) => some (n, M.set n (.dL kvs)) | _ => none) = _
    rw [hM]
  have hlt := (List.getElem?_eq_some_iff.mp hM).1
  have e2 : keysAt ((env[i]?).bind id) (M.set n (.dL kvs)) = some (.seq (kvs.map fun (kv : Key × D) => keyD kv.1)) := by
    rw [he]
    show (match (M.set n (.dL kvs))[n]? with | some (.dL kvs) => some (Wk.seq (kvs.map fun (kv : Key × D) => keyD kv.1)) | _ => none) = _
    rw [List.getElem?_set_self hlt]
  obtain ⟨f, env', M', e3, h1, h2⟩ := w.get
  refine ⟨f, env', M'.set n (.dK kvs), ?_, h2⟩
  show (match lockAt ((env[i]?).bind id) M with | some (n, M1) => unlockAt n (evS Γ (.forS tg (.keys i) b) env M1) | none => .bad) = _
  rw [e1]
  show unlockAt n (evS Γ (.forS tg (.keys i) b) env (M.set n (.dL kvs))) = _
  rw [s_for]
  show unlockAt n (stk (Res.ofV (keysAt ((env[i]?).bind id) (M.set n (.dL kvs))) _) env _) = _
  rw [e2]
  show unlockAt n (forSeq _ _ _ _) = _
  rw [e3]
  show (match M'[n]? with | some (.dL kvs) => SR.ok f env' (M'.set n (.dK kvs)) | _ => .bad) = _
  rw [h1]
section
variable {M : Mem}
/-- a comprehension that does nothing but give values -/
theorem lc_pure {turn : D → Mem → Res (Option D)} {xs : List D} (g : D → Option D) (hl : xs.length ≤ sizeLine) (h : ∀ d ∈ xs, ∀ ys, turn d (M ++ [.lst ys]) = .ok (g d) (M ++ [.lst ys])) : lcSeq turn M.length xs (M ++ [.lst []]) = .ok () (M ++ [.lst (xs.filterMap g)]) := by
  have key : ∀ (xs ys : List D), ys.length + xs.length ≤ sizeLine → (∀ d ∈ xs, ∀ ys, turn d (M ++ [.lst ys]) = .ok (g d) (M ++ [.lst ys])) → lcSeq turn M.length xs (M ++ [.lst ys]) = .ok () (M ++ [.lst (ys ++ xs.filterMap g)]) := by
    intro xs
    induction xs with
    | nil => intro ys _ _; show Res.ok () _ = _; simp
    | cons d xs ih =>
      intro ys hl h
      simp only [List.length_cons] at hl
      unfold lcSeq
      rw [h d List.mem_cons_self]
      show (match g d with | some y => _ | none => _) = _
      cases hg : g d with
      | none =>
        rw [List.filterMap_cons_none hg]
        exact ih ys (by omega) fun d hd => h d (List.mem_cons_of_mem _ hd)
      | some y =>
        show (match appendAt M.length y (M ++ [.lst ys]) with | some M'' => lcSeq turn M.length xs M'' | none => .bad) = _
        have e : appendAt M.length y (M ++ [.lst ys]) = some (M ++ [.lst (ys ++ [y])]) := by
          unfold appendAt
          rw [ga0 rfl]
          show (if ys.length < sizeLine then _ else _) = _
          rw [if_pos (by omega), sa0 rfl]
        rw [e]
        rw [List.filterMap_cons_some hg]
        have := ih (ys ++ [y]) (by simp; omega) fun d hd => h d (List.mem_cons_of_mem _ hd)
        simpa using this
  have := key xs [] (by simpa using hl) h
  simpa using this
/-- .. each of them one -/
theorem lc_map {turn : D → Mem → Res (Option D)} {xs : List D} (g : D → D) (hl : xs.length ≤ sizeLine) (h : ∀ d ∈ xs, ∀ ys, turn d (M ++ [.lst ys]) = .ok (some (g d)) (M ++ [.lst ys])) : lcSeq turn M.length xs (M ++ [.lst []]) = .ok () (M ++ [.lst (xs.map g)]) := by
  rw [lc_pure (fun d => some (g d)) hl h]
  have : xs.filterMap (fun d => some (g d)) = xs.map g := by
    rw [← List.filterMap_eq_map]; rfl
  rw [this]
end
def Y0 := And.intro @x_var (And.intro @x_int (And.intro @x_str (And.intro @x_bl (And.intro @x_non (And.intro @x_glob (And.intro @x_tup (And.intro @x_lst (And.intro @x_dict0 (And.intro @x_neg (And.intro @x_bin (And.intro @x_cmp (And.intro @x_chain (And.intro @x_notE (And.intro @x_andE (And.intro @x_orE (And.intro @x_ifE (And.intro @x_ix (And.intro @x_slice (@x_call)))))))))))))))))))
def Y1 := And.intro @x_blt (And.intro @x_meth (And.intro @x_nil (And.intro @x_cons (And.intro @x_last (And.intro @x_more (And.intro @x_o0 (And.intro @x_o1 (And.intro @t_tr (And.intro @t_cmp (And.intro @t_chain (And.intro @t_and (And.intro @t_or (And.intro @t_not (And.intro @t_o0 (And.intro @t_o1 (And.intro @w_seq (And.intro @w_r1 (And.intro @w_r2 (@x_lc)))))))))))))))))))
def Y2 := And.intro @s_nil (And.intro @s_cons (And.intro @s_set (And.intro @s_setix (And.intro @s_aug (And.intro @s_expr (And.intro @s_ret (And.intro @s_ret0 (And.intro @s_if (And.intro @s_for (And.intro @s_while (And.intro @s_brk (And.intro @s_cont (And.intro @s_pass (And.intro @b_name (And.intro @forWk_seq (And.intro @sel_true (And.intro @sel_false (And.intro @seqS_next (@seqS_ret)))))))))))))))))))
def Y3 := And.intro @seqS_brk (And.intro @seqS_cont (And.intro @seqS_exc (And.intro @bnd_ok (And.intro @bnd_exc (And.intro @stk_ok (And.intro @stk_exc (And.intro @asI_int (And.intro @asB_bl (And.intro @ifSome_some (And.intro @ofV_some (And.intro @ofO_some (And.intro @Ok_ok (And.intro @OkS_ok (And.intro @o_add (And.intro @o_sub (And.intro @c_eqI (And.intro @c_eqS (And.intro @c_eqB (@c_neI)))))))))))))))))))
def Y4 := And.intro @c_neS (And.intro @c_neB (And.intro @c_lt (And.intro @c_le (And.intro @c_gt (And.intro @c_ge (And.intro @c_eqN (And.intro @tr_bl (And.intro @tr_int (And.intro @tr_tup (And.intro @tr_non (And.intro @i_tup (And.intro @i_rol (And.intro @at_0 (And.intro @at_1 (And.intro @at_2 (And.intro @at_3 (And.intro @b_lenT (And.intro @b_lenR (@b_int)))))))))))))))))))
def Y5 := And.intro @b_intB (And.intro @b_abs (And.intro @b_max2 (And.intro @b_min2 (And.intro @b_ord (And.intro @b_tupT (And.intro @b_listT (And.intro @b_isBb (And.intro @b_isBi (And.intro @b_isBs (And.intro @b_isBt (And.intro @b_isBn (And.intro @b_isIi (And.intro @b_isIb (And.intro @b_isIs (And.intro @b_isIt (And.intro @b_isIn (And.intro @b_isSi (And.intro @b_isSb (@b_isSs)))))))))))))))))))
def Y6 := And.intro @b_isSt (And.intro @b_isSn (And.intro @b_isTi (And.intro @b_isTb (And.intro @b_isTs (And.intro @b_isTt (And.intro @b_isTn (And.intro @k_join (And.intro @wk_tup (And.intro @wk_rol (And.intro @wk_str (And.intro @a_add (And.intro @a_sub (And.intro @fr_ret (And.intro @fr_next (And.intro @envOf_cons (And.intro @envOf_nil (And.intro @fe_next (And.intro @fe_ret (@te_next)))))))))))))))))))
def Y7 := And.intro @te_ret (And.intro @tn_next (And.intro @tn_cont (And.intro @tn_brk (And.intro @tn_ret (And.intro @lcWk_seq (And.intro @noExc_ok (And.intro @wp_nil (And.intro @wp_cons (And.intro @esLen_nil (And.intro @esLen_cons (And.intro @noneN_zero (@noneN_succ))))))))))))
def Y8 := And.intro @z_app (And.intro @z_ext (And.intro @z_kapp (And.intro @z_kext (And.intro @z_kpop (And.intro @z_pop (And.intro @z_join (And.intro @z_ix (And.intro @z_len (And.intro @z_tup (And.intro @z_list (And.intro @z_sorted (And.intro @z_sum (And.intro @z_wk (And.intro @z_tr (And.intro @z_rev (And.intro @z_add (And.intro @z_slice (And.intro @z_sliceT (@lstO_lst)))))))))))))))))))
def Y9 := And.intro @moO_lst (And.intro @moO_dK (And.intro @ga0 (And.intro @ga1 (And.intro @ga2 (And.intro @ga3 (And.intro @ga4 (And.intro @sa0 (And.intro @sa1 (And.intro @sa2 (And.intro @sa3 (And.intro @sa4 (And.intro @ma_assoc (And.intro @ma_cons (And.intro @ma_nil (And.intro @ma_len (And.intro @ma_lcons (And.intro @ma_lnil (And.intro @ml_map (@x_rev)))))))))))))))))))
def Y10 := And.intro @x_tidy (And.intro @s_tidy (And.intro @tidyR_same (And.intro @z_isStr (And.intro @z_isInt (And.intro @z_isTup (And.intro @z_isDict (And.intro @z_isList (And.intro @z_addT (And.intro @m3O_lst (And.intro @m3O_dK (And.intro @m3O_dL (And.intro @ga5 (And.intro @ga6 (And.intro @ga7 (And.intro @sa5 (And.intro @sa6 (@tidyR_int)))))))))))))))))
def Y11 := And.intro @tidyR_bl (And.intro @tidyR_str (And.intro @tidyR_non (And.intro @ge0 (And.intro @ge1 (And.intro @ge2 (And.intro @se0 (@se1)))))))
end Py

set_option autoImplicit false
set_option linter.all false
set_option maxRecDepth 100000
/-! the IR of the defs (printed by gen.py). -/
namespace Py
/-- _law_cell(_law_script, _law_k): 0=_law_script 1=_law_k -/
def f3_law_cell : Fn := ⟨2, 2, (.cons (.ifS (.cmp .lt (.var 1) (.blt .len (.cons (.var 0) .nil))) (.cons (.ret (.ix (.var 0) (.var 1))) .nil) .nil) (.cons (.ret (.int 0)) .nil))⟩
/-- _law_draws(_law_cell_here): 0=_law_cell_here 1=_law_row 2=_law_rest 3=_law_mixed 4=_law_is_great 5=_law_k -/
def f4_law_draws : Fn := ⟨1, 6, (.cons (.set (.name 1) (.lst .nil)) (.cons (.set (.name 2) (.blt .abs (.cons (.var 0) .nil))) (.cons (.set (.name 3) (.bin .mod (.blt .int (.cons (.var 2) .nil)) (.int 2147483647))) (.cons (.set (.name 4) (.cmp .ge (.var 2) (.bin .pow (.int 10) (.int 18)))) (.cons (.forS (.name 5) (.range1 (.int 160)) (.cons (.ifS (.and (.tr (.var 4)) (.cmp .gt (.var 2) (.int 0))) (.cons (.expr (.meth .append (.var 1) (.cons (.bin .mod (.blt .int (.cons (.var 2) .nil)) (.int 1000)) .nil))) (.cons (.set (.name 2) (.bin .fdiv (.var 2) (.int 1000))) .nil)) (.cons (.set (.name 3) (.bin .mod (.blt .int (.cons (.bin .add (.bin .mul (.var 3) (.int 48271)) (.int 7919)) .nil)) (.int 2147483647))) (.cons (.expr (.meth .append (.var 1) (.cons (.bin .fdiv (.var 3) (.int 65536)) .nil))) .nil))) .nil)) (.cons (.ret (.lst (.cons (.int 0) (.cons (.var 1) .nil)))) .nil))))))⟩
/-- _law_next(_law_draws_here, _law_many): 0=_law_draws_here 1=_law_many 2=_law_at 3=_law_row -/
def f5_law_next : Fn := ⟨2, 4, (.cons (.set (.name 2) (.ix (.var 0) (.int 0))) (.cons (.setix (.var 0) (.int 0) (.bin .add (.var 2) (.int 1))) (.cons (.set (.name 3) (.ix (.var 0) (.int 1))) (.cons (.ifS (.cmp .ge (.var 2) (.blt .len (.cons (.var 3) .nil))) (.cons (.ret (.int 0)) .nil) .nil) (.cons (.ret (.bin .mod (.blt .int (.cons (.ix (.var 3) (.var 2)) .nil)) (.var 1))) .nil)))))⟩
/-- _law_same(_law_actual, _law_expected): 0=_law_actual 1=_law_expected 2=_law_k -/
def f28_law_same : Fn := ⟨2, 3, (.cons (.ifS (.cmp .is (.var 1) .non) (.cons (.ret (.cmp .is (.var 0) .non)) .nil) .nil) (.cons (.ifS (.tr (.blt .isTup (.cons (.var 1) .nil))) (.cons (.ifS (.or (.not (.tr (.blt .isTup (.cons (.var 0) .nil)))) (.cmp .ne (.blt .len (.cons (.var 0) .nil)) (.blt .len (.cons (.var 1) .nil)))) (.cons (.ret (.bl false)) .nil) .nil) (.cons (.forS (.name 2) (.range1 (.blt .len (.cons (.var 1) .nil))) (.cons (.ifS (.not (.tr (.call 28 (.cons (.ix (.var 0) (.var 2)) (.cons (.ix (.var 1) (.var 2)) .nil))))) (.cons (.ret (.bl false)) .nil) .nil) .nil)) (.cons (.ret (.bl true)) .nil))) .nil) (.cons (.ifS (.tr (.blt .isBool (.cons (.var 1) .nil))) (.cons (.ret (.andE (.blt .isBool (.cons (.var 0) .nil)) (.cmp .eq (.var 0) (.var 1)))) .nil) .nil) (.cons (.ifS (.tr (.blt .isInt (.cons (.var 1) .nil))) (.cons (.ret (.andE (.blt .isInt (.cons (.var 0) .nil)) (.andE (.notE (.blt .isBool (.cons (.var 0) .nil))) (.cmp .eq (.var 0) (.var 1))))) .nil) .nil) (.cons (.ret (.andE (.blt .isStr (.cons (.var 0) .nil)) (.cmp .eq (.var 0) (.var 1)))) .nil)))))⟩
/-- _law_read_number(_law_octets, _law_at): 0=_law_octets 1=_law_at 2=_law_number 3=_law_scale 4=_law_k 5=_law_octet -/
def f110_law_read_number : Fn := ⟨2, 6, (.cons (.set (.name 2) (.int 0)) (.cons (.set (.name 3) (.int 1)) (.cons (.forS (.name 4) (.range1 (.int 8)) (.cons (.ifS (.cmp .ge (.bin .add (.var 1) (.var 4)) (.blt .len (.cons (.var 0) .nil))) (.cons (.ret (.tup (.cons (.str [98, 97, 100]) (.cons (.blt .len (.cons (.var 0) .nil)) (.cons (.str [101, 110, 100]) .nil))))) .nil) .nil) (.cons (.set (.name 5) (.ix (.var 0) (.bin .add (.var 1) (.var 4)))) (.cons (.ifS (.cmp .lt (.var 5) (.int 128)) (.cons (.ifS (.and (.cmp .eq (.var 5) (.int 0)) (.cmp .gt (.var 4) (.int 0))) (.cons (.ret (.tup (.cons (.str [98, 97, 100]) (.cons (.var 1) (.cons (.str [102, 111, 114, 109]) .nil))))) .nil) .nil) (.cons (.ret (.tup (.cons (.str [118, 97, 108, 117, 101]) (.cons (.bin .add (.var 2) (.bin .mul (.var 3) (.var 5))) (.cons (.bin .add (.bin .add (.var 1) (.var 4)) (.int 1)) .nil))))) .nil)) .nil) (.cons (.set (.name 2) (.bin .add (.var 2) (.bin .mul (.var 3) (.bin .sub (.var 5) (.int 128))))) (.cons (.set (.name 3) (.bin .mul (.var 3) (.int 128))) .nil)))))) (.cons (.ret (.tup (.cons (.str [98, 97, 100]) (.cons (.var 1) (.cons (.str [102, 111, 114, 109]) .nil))))) .nil))))⟩
/-- read_number(octets, at): 0=octets 1=at 2=number 3=scale 4=place 5=octet -/
def f740_read_number : Fn := ⟨2, 6, (.cons (.set (.name 2) (.int 0)) (.cons (.set (.name 3) (.int 1)) (.cons (.forS (.name 4) (.range2 (.var 1) (.blt .min2 (.cons (.blt .len (.cons (.var 0) .nil)) (.cons (.bin .add (.var 1) (.glob 19)) .nil)))) (.cons (.set (.name 5) (.ix (.var 0) (.var 4))) (.cons (.ifS (.cmp .lt (.var 5) (.glob 18)) (.cons (.ifS (.and (.cmp .eq (.var 5) (.int 0)) (.cmp .gt (.var 4) (.var 1))) (.cons (.raise 11 (.var 1) (.str [102, 111, 114, 109])) .nil) .nil) (.cons (.ret (.tup (.cons (.bin .add (.var 2) (.bin .mul (.var 3) (.var 5))) (.cons (.bin .add (.var 4) (.int 1)) .nil)))) .nil)) .nil) (.cons (.set (.name 2) (.bin .add (.var 2) (.bin .mul (.var 3) (.bin .sub (.var 5) (.glob 18))))) (.cons (.set (.name 3) (.bin .mul (.var 3) (.glob 18))) .nil))))) (.cons (.ifS (.cmp .ge (.bin .sub (.blt .len (.cons (.var 0) .nil)) (.var 1)) (.glob 19)) (.cons (.raise 11 (.var 1) (.str [102, 111, 114, 109])) .nil) .nil) (.cons (.raise 11 (.blt .len (.cons (.var 0) .nil)) (.str [101, 110, 100])) .nil)))))⟩
/-- _law_try(_law_octets, _law_at): 0=_law_octets 1=_law_at 2=_law_found 3=e -/
def f741_law_try : Fn := ⟨2, 4, (.cons (.tryAs (.cons (.set (.name 2) (.call 740 (.cons (.var 0) (.cons (.var 1) .nil)))) (.cons (.ifS (.or (.not (.tr (.blt .isTup (.cons (.var 2) .nil)))) (.cmp .ne (.blt .len (.cons (.var 2) .nil)) (.int 2))) (.cons (.ret (.tup (.cons (.str [110, 111, 110, 101]) (.cons (.int 0) (.cons (.int 0) .nil))))) .nil) .nil) (.cons (.ret (.tup (.cons (.str [118, 97, 108, 117, 101]) (.cons (.ix (.var 2) (.int 0)) (.cons (.ix (.var 2) (.int 1)) .nil))))) .nil))) 11 [] 3 (.tup (.cons (.str [98, 97, 100]) (.cons (.fld 0) (.cons (.fld 1) .nil))))) .nil)⟩
/-- law(_law_script): 0=_law_script 1=_law_draws_here 2=_law_menu 3=_law_octets 4=_law_at 5=_law_kept 6=_law_found 7=_law_k -/
def f743_law : Fn := ⟨1, 8, (.cons (.set (.name 1) (.call 4 (.cons (.call 3 (.cons (.var 0) (.cons (.int 0) .nil))) .nil))) (.cons (.set (.name 2) (.lst (.cons (.int 0) (.cons (.bin .add (.int 1) (.call 5 (.cons (.var 1) (.cons (.int 126) .nil)))) (.cons (.int 127) (.cons (.int 128) (.cons (.int 128) (.cons (.int 255) (.cons (.int 129) (.cons (.int 200) .nil)))))))))) (.cons (.set (.name 3) (.lc [7] (.name 7) (.range1 (.call 5 (.cons (.var 1) (.cons (.int 15) .nil)))) .none (.ix (.var 2) (.call 5 (.cons (.var 1) (.cons (.int 8) .nil)))))) (.cons (.ifS (.cmp .eq (.call 5 (.cons (.var 1) (.cons (.int 3) .nil))) (.int 1)) (.cons (.set (.name 3) (.bin .add (.lc [7] (.name 7) (.range1 (.call 5 (.cons (.var 1) (.cons (.int 11) .nil)))) .none (.bin .add (.int 128) (.call 5 (.cons (.var 1) (.cons (.int 128) .nil))))) (.var 3))) .nil) .nil) (.cons (.set (.name 4) (.call 5 (.cons (.var 1) (.cons (.bin .add (.blt .len (.cons (.var 3) .nil)) (.int 1)) .nil)))) (.cons (.ifS (.cmp .eq (.call 5 (.cons (.var 1) (.cons (.int 2) .nil))) (.int 1)) (.cons (.set (.name 4) (.int 0)) .nil) .nil) (.cons (.set (.name 5) (.blt .list (.cons (.var 3) .nil))) (.cons (.set (.name 6) (.call 741 (.cons (.var 3) (.cons (.var 4) .nil)))) (.cons (.ret (.andE (.cmp .eq (.var 3) (.var 5)) (.call 28 (.cons (.var 6) (.cons (.call 110 (.cons (.var 5) (.cons (.var 4) .nil))) .nil))))) .nil)))))))))⟩
/-- is_allowed_code(code): 0=code -/
def f0_is_allowed_code : Fn := ⟨1, 1, (.cons (.ret (.andE (.chain .le (.int 32) (.var 0) (.last .le (.int 126))) (.cmp .ne (.var 0) (.glob 1)))) .nil)⟩
/-- is_text(value): 0=value 1=char -/
def f1_is_text : Fn := ⟨1, 2, (.cons (.ifS (.not (.tr (.blt .isStr (.cons (.var 0) .nil)))) (.cons (.ret (.bl false)) .nil) .nil) (.cons (.forS (.name 1) (.seq (.var 0)) (.cons (.ifS (.not (.tr (.call 0 (.cons (.blt .ord (.cons (.var 1) .nil)) .nil)))) (.cons (.ret (.bl false)) .nil) .nil) .nil)) (.cons (.ret (.bl true)) .nil)))⟩
/-- is_leaf_value(leaf, value): 0=leaf 1=value -/
def f2_is_leaf_value : Fn := ⟨2, 2, (.cons (.ifS (.cmp .eq (.ix (.var 0) (.int 0)) (.str [116, 101, 120, 116])) (.cons (.ret (.andE (.call 1 (.cons (.var 1) .nil)) (.chain .le (.ix (.var 0) (.int 1)) (.blt .len (.cons (.var 1) .nil)) (.last .le (.ix (.var 0) (.int 2)))))) .nil) .nil) (.cons (.ifS (.not (.tr (.blt .isInt (.cons (.var 1) .nil)))) (.cons (.ret (.bl false)) .nil) .nil) (.cons (.ifS (.cmp .eq (.ix (.var 0) (.int 0)) (.str [110, 117, 109, 98, 101, 114])) (.cons (.ret (.chain .le (.ix (.var 0) (.int 1)) (.var 1) (.last .le (.ix (.var 0) (.int 2))))) .nil) .nil) (.cons (.ret (.orE (.cmp .isin (.var 1) (.ix (.var 0) (.int 1))) (.andE (.cmp .eq (.var 1) (.int 0)) (.ix (.var 0) (.int 3))))) .nil))))⟩
/-- _law_big(_law_draws_here): 0=_law_draws_here 1=_law_number 2=_law_k -/
def f6_law_big : Fn := ⟨1, 3, (.cons (.set (.name 1) (.int 0)) (.cons (.forS (.name 2) (.range1 (.int 6)) (.cons (.set (.name 1) (.bin .add (.bin .mul (.var 1) (.int 1000)) (.call 5 (.cons (.var 0) (.cons (.int 1000) .nil))))) .nil)) (.cons (.ret (.var 1)) .nil)))⟩
/-- _law_char(_law_k): 0=_law_k 1=_law_chars -/
def f7_law_char : Fn := ⟨1, 2, (.cons (.set (.name 1) (.str [32, 33, 34, 35, 36, 38, 39, 40, 41, 42, 43, 44, 45, 46, 47, 48, 49, 50, 51, 52, 53, 54, 55, 56, 57, 58, 59, 60, 61, 62, 63, 64, 65, 66, 67, 68, 69, 70, 71, 72, 73, 74, 75, 76, 77, 78, 79, 80, 81, 82, 83, 84, 85, 86, 87, 88, 89, 90, 91, 92, 93, 94, 95, 96])) (.cons (.set (.name 1) (.bin .add (.var 1) (.str [97, 98, 99, 100, 101, 102, 103, 104, 105, 106, 107, 108, 109, 110, 111, 112, 113, 114, 115, 116, 117, 118, 119, 120, 121, 122, 123, 124, 125, 126]))) (.cons (.ret (.ix (.var 1) (.bin .mod (.blt .int (.cons (.var 0) .nil)) (.int 94)))) .nil)))⟩
/-- _law_ids(_law_draws_here, _law_most): 0=_law_draws_here 1=_law_most 2=_law_ids_here 3=_law_number 4=_law_k -/
def f8_law_ids : Fn := ⟨2, 5, (.cons (.set (.name 2) (.lst .nil)) (.cons (.set (.name 3) (.int 0)) (.cons (.forS (.name 4) (.range1 (.call 5 (.cons (.var 0) (.cons (.bin .add (.var 1) (.int 1)) .nil)))) (.cons (.set (.name 3) (.bin .add (.bin .add (.var 3) (.int 1)) (.call 5 (.cons (.var 0) (.cons (.int 4) .nil))))) (.cons (.expr (.meth .append (.var 2) (.cons (.var 3) .nil))) .nil))) (.cons (.ifS (.cmp .eq (.call 5 (.cons (.var 0) (.cons (.int 9) .nil))) (.int 1)) (.cons (.expr (.meth .append (.var 2) (.cons (.int 99) .nil))) .nil) .nil) (.cons (.ret (.var 2)) .nil)))))⟩
/-- _law_split(_law_draws_here, _law_ids_here): 0=_law_draws_here 1=_law_ids_here 2=_law_live 3=_law_retired 4=_law_number -/
def f9_law_split : Fn := ⟨2, 5, (.cons (.set (.name 2) (.lst .nil)) (.cons (.set (.name 3) (.lst .nil)) (.cons (.forS (.name 4) (.seq (.var 1)) (.cons (.ifS (.cmp .eq (.call 5 (.cons (.var 0) (.cons (.int 5) .nil))) (.int 1)) (.cons (.expr (.meth .append (.var 3) (.cons (.var 4) .nil))) .nil) (.cons (.expr (.meth .append (.var 2) (.cons (.var 4) .nil))) .nil)) .nil)) (.cons (.ret (.lst (.cons (.var 2) (.cons (.var 3) .nil)))) .nil))))⟩
/-- _law_leaf(_law_draws_here): 0=_law_draws_here 1=_law_kind 2=_law_low 3=_law_high 4=_law_parted 5=_law_is_open -/
def f10_law_leaf : Fn := ⟨1, 6, (.cons (.set (.name 1) (.call 5 (.cons (.var 0) (.cons (.int 8) .nil)))) (.cons (.ifS (.cmp .lt (.var 1) (.int 4)) (.cons (.set (.name 2) (.bin .sub (.call 5 (.cons (.var 0) (.cons (.int 12) .nil))) (.int 6))) (.cons (.set (.name 3) (.bin .add (.var 2) (.call 5 (.cons (.var 0) (.cons (.int 9) .nil))))) (.cons (.ifS (.cmp .eq (.call 5 (.cons (.var 0) (.cons (.int 9) .nil))) (.int 1)) (.cons (.ret (.tup (.cons (.str [110, 117, 109, 98, 101, 114]) (.cons (.neg (.bin .pow (.int 10) (.int 15))) (.cons (.bin .pow (.int 10) (.int 15)) .nil))))) .nil) .nil) (.cons (.ret (.tup (.cons (.str [110, 117, 109, 98, 101, 114]) (.cons (.var 2) (.cons (.var 3) .nil))))) .nil)))) .nil) (.cons (.ifS (.cmp .lt (.var 1) (.int 6)) (.cons (.set (.name 2) (.call 5 (.cons (.var 0) (.cons (.int 3) .nil)))) (.cons (.set (.name 3) (.bin .add (.var 2) (.call 5 (.cons (.var 0) (.cons (.int 4) .nil))))) (.cons (.ifS (.cmp .eq (.call 5 (.cons (.var 0) (.cons (.int 9) .nil))) (.int 1)) (.cons (.set (.name 3) (.int 40)) .nil) .nil) (.cons (.ret (.tup (.cons (.str [116, 101, 120, 116]) (.cons (.var 2) (.cons (.var 3) .nil))))) .nil)))) .nil) (.cons (.set (.name 4) (.call 9 (.cons (.var 0) (.cons (.call 8 (.cons (.var 0) (.cons (.int 4) .nil))) .nil)))) (.cons (.set (.name 5) (.orE (.cmp .eq (.call 5 (.cons (.var 0) (.cons (.int 2) .nil))) (.int 1)) (.orE (.cmp .gt (.blt .len (.cons (.ix (.var 4) (.int 1)) .nil)) (.int 0)) (.cmp .eq (.blt .len (.cons (.ix (.var 4) (.int 0)) .nil)) (.int 0))))) (.cons (.ret (.tup (.cons (.str [99, 104, 111, 105, 99, 101]) (.cons (.blt .tuple (.cons (.ix (.var 4) (.int 0)) .nil)) (.cons (.blt .tuple (.cons (.ix (.var 4) (.int 1)) .nil)) (.cons (.var 5) .nil)))))) .nil))))))⟩
/-- _law_is_text(_law_value): 0=_law_value 1=_law_char_here -/
def f14_law_is_text : Fn := ⟨1, 2, (.cons (.ifS (.not (.tr (.blt .isStr (.cons (.var 0) .nil)))) (.cons (.ret (.bl false)) .nil) .nil) (.cons (.forS (.name 1) (.seq (.var 0)) (.cons (.ifS (.or (.cmp .lt (.blt .ord (.cons (.var 1) .nil)) (.int 32)) (.or (.cmp .gt (.blt .ord (.cons (.var 1) .nil)) (.int 126)) (.cmp .eq (.blt .ord (.cons (.var 1) .nil)) (.int 37)))) (.cons (.ret (.bl false)) .nil) .nil) .nil)) (.cons (.ret (.bl true)) .nil)))⟩
/-- _law_is_leaf_value(_law_leaf_here, _law_value): 0=_law_leaf_here 1=_law_value -/
def f15_law_is_leaf_value : Fn := ⟨2, 2, (.cons (.ifS (.cmp .eq (.ix (.var 0) (.int 0)) (.str [116, 101, 120, 116])) (.cons (.ret (.andE (.call 14 (.cons (.var 1) .nil)) (.andE (.cmp .ge (.blt .len (.cons (.var 1) .nil)) (.ix (.var 0) (.int 1))) (.cmp .le (.blt .len (.cons (.var 1) .nil)) (.ix (.var 0) (.int 2)))))) .nil) .nil) (.cons (.ifS (.not (.tr (.blt .isInt (.cons (.var 1) .nil)))) (.cons (.ret (.bl false)) .nil) .nil) (.cons (.ifS (.cmp .eq (.ix (.var 0) (.int 0)) (.str [110, 117, 109, 98, 101, 114])) (.cons (.ret (.andE (.cmp .ge (.var 1) (.ix (.var 0) (.int 1))) (.cmp .le (.var 1) (.ix (.var 0) (.int 2))))) .nil) .nil) (.cons (.ret (.orE (.cmp .isin (.var 1) (.ix (.var 0) (.int 1))) (.andE (.cmp .eq (.var 1) (.int 0)) (.ix (.var 0) (.int 3))))) .nil))))⟩
/-- _law_leaf_value(_law_leaf_here, _law_draws_here): 0=_law_leaf_here 1=_law_draws_here 2=_law_pick 3=_law_size 4=_law_symbols 5=_law_k -/
def f504_law_leaf_value : Fn := ⟨2, 6, (.cons (.ifS (.cmp .eq (.ix (.var 0) (.int 0)) (.str [110, 117, 109, 98, 101, 114])) (.cons (.set (.name 2) (.call 5 (.cons (.var 1) (.cons (.int 5) .nil)))) (.cons (.ifS (.cmp .eq (.var 2) (.int 1)) (.cons (.ret (.ix (.var 0) (.int 1))) .nil) .nil) (.cons (.ifS (.cmp .eq (.var 2) (.int 2)) (.cons (.ret (.ix (.var 0) (.int 2))) .nil) .nil) (.cons (.ret (.bin .add (.ix (.var 0) (.int 1)) (.bin .mod (.blt .int (.cons (.call 6 (.cons (.var 1) .nil)) .nil)) (.bin .add (.bin .sub (.ix (.var 0) (.int 2)) (.ix (.var 0) (.int 1))) (.int 1))))) .nil)))) .nil) (.cons (.ifS (.cmp .eq (.ix (.var 0) (.int 0)) (.str [116, 101, 120, 116])) (.cons (.set (.name 3) (.bin .add (.ix (.var 0) (.int 1)) (.call 5 (.cons (.var 1) (.cons (.bin .add (.bin .sub (.ix (.var 0) (.int 2)) (.ix (.var 0) (.int 1))) (.int 1)) .nil))))) (.cons (.ret (.tidy (.meth .join (.str []) (.cons (.lc [5] (.name 5) (.range1 (.var 3)) .none (.call 7 (.cons (.call 5 (.cons (.var 1) (.cons (.int 94) .nil))) .nil))) .nil)))) .nil)) .nil) (.cons (.set (.name 4) (.blt .list (.cons (.ix (.var 0) (.int 1)) .nil))) (.cons (.ifS (.tr (.ix (.var 0) (.int 3))) (.cons (.expr (.meth .append (.var 4) (.cons (.int 0) .nil))) .nil) .nil) (.cons (.ret (.ix (.var 4) (.call 5 (.cons (.var 1) (.cons (.blt .len (.cons (.var 4) .nil)) .nil))))) .nil)))))⟩
/-- are_ascending_ids(ids): 0=ids 1=last 2=number -/
def f18_are_ascending_ids : Fn := ⟨1, 3, (.cons (.set (.name 1) (.int 0)) (.cons (.forS (.name 2) (.seq (.var 0)) (.cons (.ifS (.not (.chain .lt (.var 1) (.var 2) (.last .le (.glob 5)))) (.cons (.ret (.bl false)) .nil) .nil) (.cons (.set (.name 1) (.var 2)) .nil))) (.cons (.ret (.bl true)) .nil)))⟩
/-- have_common(first, second): 0=first 1=second 2=number -/
def f19_have_common : Fn := ⟨2, 3, (.cons (.forS (.name 2) (.seq (.var 0)) (.cons (.ifS (.cmp .isin (.var 2) (.var 1)) (.cons (.ret (.bl true)) .nil) .nil) .nil)) (.cons (.ret (.bl false)) .nil))⟩
/-- are_valid_ids(live, retired, is_open): 0=live 1=retired 2=is_open -/
def f20_are_valid_ids : Fn := ⟨3, 3, (.cons (.ifS (.or (.not (.tr (.call 18 (.cons (.var 0) .nil)))) (.or (.not (.tr (.call 18 (.cons (.var 1) .nil)))) (.tr (.call 19 (.cons (.var 0) (.cons (.var 1) .nil)))))) (.cons (.ret (.bl false)) .nil) .nil) (.cons (.ret (.orE (.var 2) (.andE (.cmp .eq (.blt .len (.cons (.var 1) .nil)) (.int 0)) (.cmp .gt (.blt .len (.cons (.var 0) .nil)) (.int 0))))) .nil))⟩
/-- is_valid_leaf(leaf): 0=leaf -/
def f21_is_valid_leaf : Fn := ⟨1, 1, (.cons (.ifS (.cmp .eq (.ix (.var 0) (.int 0)) (.str [110, 117, 109, 98, 101, 114])) (.cons (.ret (.chain .le (.neg (.glob 3)) (.ix (.var 0) (.int 1)) (.more .le (.ix (.var 0) (.int 2)) (.last .le (.glob 3))))) .nil) .nil) (.cons (.ifS (.cmp .eq (.ix (.var 0) (.int 0)) (.str [116, 101, 120, 116])) (.cons (.ret (.chain .le (.int 0) (.ix (.var 0) (.int 1)) (.more .le (.ix (.var 0) (.int 2)) (.last .le (.glob 4))))) .nil) .nil) (.cons (.ret (.call 20 (.cons (.ix (.var 0) (.int 1)) (.cons (.ix (.var 0) (.int 2)) (.cons (.ix (.var 0) (.int 3)) .nil))))) .nil)))⟩
/-- _law_part(_law_draws_here, _law_names): 0=_law_draws_here 1=_law_names -/
def f34_law_part : Fn := ⟨2, 2, (.cons (.ifS (.cmp .eq (.call 5 (.cons (.var 0) (.cons (.int 3) .nil))) (.int 1)) (.cons (.ret (.ix (.var 1) (.call 5 (.cons (.var 0) (.cons (.blt .len (.cons (.var 1) .nil)) .nil))))) .nil) .nil) (.cons (.ret (.call 10 (.cons (.var 0) .nil))) .nil))⟩
/-- _law_list_body(_law_draws_here, _law_names, _law_later): 0=_law_draws_here 1=_law_names 2=_law_later 3=_law_low 4=_law_part_here 5=_law_high -/
def f35_law_list_body : Fn := ⟨3, 6, (.cons (.set (.name 3) (.int 0)) (.cons (.ifS (.cmp .eq (.call 5 (.cons (.var 0) (.cons (.int 2) .nil))) (.int 1)) (.cons (.set (.name 4) (.ix (.var 1) (.call 5 (.cons (.var 0) (.cons (.blt .len (.cons (.var 1) .nil)) .nil))))) (.cons (.ifS (.cmp .isin (.var 4) (.var 2)) (.cons (.set (.name 3) (.call 5 (.cons (.var 0) (.cons (.int 2) .nil)))) .nil) .nil) .nil)) (.cons (.set (.name 4) (.call 10 (.cons (.var 0) .nil))) (.cons (.set (.name 3) (.call 5 (.cons (.var 0) (.cons (.int 3) .nil)))) .nil))) (.cons (.set (.name 5) (.blt .max2 (.cons (.int 1) (.cons (.bin .add (.var 3) (.call 5 (.cons (.var 0) (.cons (.int 4) .nil)))) .nil)))) (.cons (.ifS (.cmp .eq (.call 5 (.cons (.var 0) (.cons (.int 9) .nil))) (.int 1)) (.cons (.set (.name 5) (.int 99)) .nil) .nil) (.cons (.ret (.tup (.cons (.str [108, 105, 115, 116]) (.cons (.var 4) (.cons (.var 3) (.cons (.var 5) .nil)))))) .nil)))))⟩
/-- _law_union_body(_law_draws_here, _law_names, _law_later): 0=_law_draws_here 1=_law_names 2=_law_later 3=_law_parted 4=_law_cases 5=_law_safe 6=_law_is_open 7=_law_number 8=_law_case -/
def f37_law_union_body : Fn := ⟨3, 9, (.cons (.set (.name 3) (.call 9 (.cons (.var 0) (.cons (.call 8 (.cons (.var 0) (.cons (.int 4) .nil))) .nil)))) (.cons (.set (.name 4) (.lc [7] (.name 7) (.seq (.ix (.var 3) (.int 0))) .none (.tup (.cons (.var 7) (.cons (.call 34 (.cons (.var 0) (.cons (.var 1) .nil))) .nil))))) (.cons (.set (.name 5) (.lc [8] (.name 8) (.seq (.var 4)) (.some (.or (.not (.tr (.blt .isStr (.cons (.ix (.var 8) (.int 1)) .nil)))) (.cmp .isin (.ix (.var 8) (.int 1)) (.var 2)))) (.var 8))) (.cons (.set (.name 6) (.orE (.cmp .eq (.call 5 (.cons (.var 0) (.cons (.int 2) .nil))) (.int 1)) (.orE (.cmp .gt (.blt .len (.cons (.ix (.var 3) (.int 1)) .nil)) (.int 0)) (.cmp .eq (.blt .len (.cons (.var 5) .nil)) (.int 0))))) (.cons (.ret (.tup (.cons (.str [117, 110, 105, 111, 110]) (.cons (.blt .tuple (.cons (.var 4) .nil)) (.cons (.blt .tuple (.cons (.ix (.var 3) (.int 1)) .nil)) (.cons (.var 6) .nil)))))) .nil)))))⟩
/-- _law_record_body(_law_draws_here, _law_names, _law_later): 0=_law_draws_here 1=_law_names 2=_law_later 3=_law_parted 4=_law_fields 5=_law_is_free 6=_law_number 7=_law_part_here 8=_law_pick -/
def f510_law_record_body : Fn := ⟨3, 9, (.cons (.set (.name 3) (.call 9 (.cons (.var 0) (.cons (.call 8 (.cons (.var 0) (.cons (.int 4) .nil))) .nil)))) (.cons (.set (.name 4) (.lst .nil)) (.cons (.set (.name 5) (.bl true)) (.cons (.forS (.name 6) (.seq (.ix (.var 3) (.int 0))) (.cons (.set (.name 7) (.call 34 (.cons (.var 0) (.cons (.var 1) .nil)))) (.cons (.set (.name 8) (.call 5 (.cons (.var 0) (.cons (.int 4) .nil)))) (.cons (.ifS (.tr (.blt .isStr (.cons (.var 7) .nil))) (.cons (.ifS (.and (.cmp .ne (.var 8) (.int 1)) (.and (.tr (.var 5)) (.cmp .isin (.var 7) (.var 2)))) (.cons (.set (.name 5) (.bl false)) (.cons (.expr (.meth .append (.var 4) (.cons (.tup (.cons (.var 6) (.cons (.var 7) (.cons (.str [114, 101, 113, 117, 105, 114, 101, 100]) (.cons .non .nil))))) .nil))) .nil)) (.cons (.expr (.meth .append (.var 4) (.cons (.tup (.cons (.var 6) (.cons (.var 7) (.cons (.str [111, 112, 116, 105, 111, 110, 97, 108]) (.cons .non .nil))))) .nil))) .nil)) .nil) (.cons (.ifS (.cmp .eq (.var 8) (.int 1)) (.cons (.expr (.meth .append (.var 4) (.cons (.tup (.cons (.var 6) (.cons (.var 7) (.cons (.str [111, 112, 116, 105, 111, 110, 97, 108]) (.cons .non .nil))))) .nil))) .nil) (.cons (.ifS (.and (.cmp .eq (.var 8) (.int 2)) (.cmp .ne (.ix (.var 7) (.int 0)) (.str [99, 104, 111, 105, 99, 101]))) (.cons (.expr (.meth .append (.var 4) (.cons (.tup (.cons (.var 6) (.cons (.var 7) (.cons (.str [100, 101, 102, 97, 117, 108, 116]) (.cons (.call 504 (.cons (.var 7) (.cons (.var 0) .nil))) .nil))))) .nil))) .nil) (.cons (.expr (.meth .append (.var 4) (.cons (.tup (.cons (.var 6) (.cons (.var 7) (.cons (.str [114, 101, 113, 117, 105, 114, 101, 100]) (.cons .non .nil))))) .nil))) .nil)) .nil)) .nil)) .nil)))) (.cons (.ret (.tup (.cons (.str [114, 101, 99, 111, 114, 100]) (.cons (.blt .tuple (.cons (.var 4) .nil)) (.cons (.blt .tuple (.cons (.ix (.var 3) (.int 1)) .nil)) .nil))))) .nil)))))⟩
/-- _law_schema(_law_draws_here): 0=_law_draws_here 1=_law_count 2=_law_names 3=_law_definitions 4=_law_k 5=_law_kind 6=_law_later 7=_law_body -/
def f511_law_schema : Fn := ⟨1, 8, (.cons (.set (.name 1) (.bin .add (.int 1) (.call 5 (.cons (.var 0) (.cons (.int 4) .nil))))) (.cons (.set (.name 2) (.slice (.lst (.cons (.str [97]) (.cons (.str [97, 98]) (.cons (.str [98]) (.cons (.str [98, 97]) .nil))))) .none (.some (.var 1)))) (.cons (.set (.name 3) (.lst .nil)) (.cons (.forS (.name 4) (.range1 (.var 1)) (.cons (.set (.name 5) (.call 5 (.cons (.var 0) (.cons (.int 6) .nil)))) (.cons (.set (.name 6) (.slice (.var 2) (.some (.bin .add (.var 4) (.int 1))) .none)) (.cons (.ifS (.cmp .lt (.var 5) (.int 3)) (.cons (.set (.name 7) (.call 510 (.cons (.var 0) (.cons (.var 2) (.cons (.var 6) .nil))))) .nil) (.cons (.ifS (.cmp .lt (.var 5) (.int 5)) (.cons (.set (.name 7) (.call 37 (.cons (.var 0) (.cons (.var 2) (.cons (.var 6) .nil))))) .nil) (.cons (.set (.name 7) (.call 35 (.cons (.var 0) (.cons (.var 2) (.cons (.var 6) .nil))))) .nil)) .nil)) (.cons (.expr (.meth .append (.var 3) (.cons (.tup (.cons (.ix (.var 2) (.var 4)) (.cons (.var 7) .nil))) .nil))) .nil))))) (.cons (.ret (.tup (.cons (.ix (.var 2) (.call 5 (.cons (.var 0) (.cons (.var 1) .nil)))) (.cons (.blt .tuple (.cons (.var 3) .nil)) .nil)))) .nil)))))⟩
end Py

set_option Elab.async false
set_option autoImplicit false
set_option linter.all false
set_option maxRecDepth 100000
set_option maxHeartbeats 4000000
/-! P27: what may raise. -/
namespace Py
open PySem L2
section
variable {Γ : Sig} {env : Env} {M : Mem}
theorem s_raise0 {c : Nat} : evS Γ (.raise0 c) env M = .exc ⟨c, []⟩ env M := (rfl)
theorem s_raise {c : Nat} {a b : E} : evS Γ (.raise c a b) env M = stk (evE Γ a env M) env fun d M => stk (evE Γ b env M) env fun d2 M => .exc ⟨c, [d, d2]⟩ env M := (rfl)
theorem s_try {b : Ss} {c i : Nat} {os : List Nat} {x : XE} : evS Γ (.tryAs b c os i x) env M = catch_ c os i x (evSs Γ b env M) := (rfl)
theorem catch_ok {c i : Nat} {os : List Nat} {x : XE} {f : Fl} : catch_ c os i x (.ok f env M) = .ok f env M := (rfl)
theorem catch_hit {c i : Nat} {os : List Nat} {x : XE} {e : Exn} {d : D} (h1 : e.cls = c) (h2 : i < env.length) (h3 : evX x e.fs = some d) : catch_ c os i x (.exc e env M) = .ok (.ret d) env M := by
  show (if e.cls = c ∧ i < env.length then (match evX x e.fs with | some d => SR.ok (.ret d) env M | none => .bad) else if e.cls ∈ os then .exc e env M else .bad) = _
  rw [if_pos ⟨h1, h2⟩, h3]
end
@[reducible] def HoldX (Q : Exn → Env → Mem → Prop) (f : Exn) (env : Env) (M : Mem) (_ : Tag Q := .mk) : Prop := Q f env M
/-- r ends as Q says, or raises as X says -/
structure AnyS (r : SR) (Q : Fl → Env → Mem → Prop) (X : Exn → Env → Mem → Prop) (t : Tag (Q, X) := .mk) : Prop where
  get : (∃ f env M, r = .ok f env M ∧ Q f env M) ∨ ∃ e env M, r = .exc e env M ∧ X e env M
section
variable {Q : Fl → Env → Mem → Prop} {X : Exn → Env → Mem → Prop} {t : Tag (Q, X)} {r : SR}
theorem AnyS.here {f : Fl} {env : Env} {M : Mem} (h : AnyS (.ok f env M) Q X t) : Q f env M := by
  rcases h.get with ⟨_, _, _, e, q⟩ | ⟨_, _, _, e, q⟩
  · cases e
    exact q
  · cases e
theorem AnyS.hereX {f : Exn} {env : Env} {M : Mem} (h : AnyS (.exc f env M) Q X t) : X f env M := by
  rcases h.get with ⟨_, _, _, e, q⟩ | ⟨_, _, _, e, q⟩
  · cases e
  · cases e
    exact q
theorem AnyS_ok {f : Fl} {env : Env} {M : Mem} : AnyS (.ok f env M) Q X t = HoldS Q f env M := propext ⟨fun h => h.here, fun q => ⟨.inl ⟨f, env, M, rfl, q⟩⟩⟩
theorem AnyS_exc {f : Exn} {env : Env} {M : Mem} : AnyS (.exc f env M) Q X t = HoldX X f env M := propext ⟨fun h => h.hereX, fun q => ⟨.inr ⟨f, env, M, rfl, q⟩⟩⟩
theorem OkS.any (h : OkS r Q) : AnyS r Q X := ⟨.inl h.get⟩
theorem any_seq {k : Env → Mem → SR} (P : Env → Mem → Prop) (h : AnyS r (turnEnd' P Q) X) (w : ∀ env M, P env M → AnyS (k env M) Q X) : AnyS (seqS r k) Q X := by
  rcases h.get with ⟨f, env, M, rfl, q⟩ | ⟨e, env, M, rfl, q⟩
  · cases f with
    | next => exact w _ _ q
    | brk => exact ⟨.inl ⟨_, _, _, rfl, q⟩⟩
    | cont => exact ⟨.inl ⟨_, _, _, rfl, q⟩⟩
    | ret d => exact ⟨.inl ⟨_, _, _, rfl, q⟩⟩
  · exact ⟨.inr ⟨_, _, _, rfl, q⟩⟩
theorem any_for {body : D → Env → Mem → SR} (I : List D → Env → Mem → Prop) : ∀ {xs : List D} {env : Env} {M : Mem}, I xs env M →
    (∀ d ds env M, I (d :: ds) env M → AnyS (body d env M) (turnEnd (I ds) Q) X) → (∀ env M, I [] env M → Q .next env M) → AnyS (forSeq body xs env M) Q X
  | [], env, M, h, _, e => ⟨.inl ⟨_, _, _, rfl, e env M h⟩⟩
  | d :: ds, env, M, h, b, e => by
    unfold forSeq
    rcases (b d ds env M h).get with ⟨f, env', M', e1, q⟩ | ⟨x, env', M', e1, q⟩
    · rw [e1]
      cases f with
      | next => exact any_for I q b e
      | cont => exact any_for I q b e
      | brk => exact ⟨.inl ⟨_, _, _, rfl, q⟩⟩
      | ret v => exact ⟨.inl ⟨_, _, _, rfl, q⟩⟩
    · rw [e1]
      exact ⟨.inr ⟨_, _, _, rfl, q⟩⟩
end
section
variable {p : Prog} {k f : Nat} {F : Fn} {ds : List D} {M : Mem} {R : Res D}
theorem run_any (h : p.fn f = some F) (hl : ds.length = F.np) (w : AnyS (evSs ⟨run p k, p.gl⟩ F.body (envOf ds (F.nn - F.np)) M) (fnEnd fun d M' => R = tidyR M (.ok d M')) (fun e _ M' => R = tidyR M (.exc e M'))) : run p (k + 1) f ds M = R := by
  rw [run_fn h hl, envOf_eq, hl]
  generalize evSs _ _ _ _ = r at w ⊢
  rcases w.get with ⟨fl, env, M', rfl, q⟩ | ⟨x, env, M', rfl, q⟩
  · cases fl with
    | next => exact (show R = tidyR M (.ok .non M') from q).symm
    | ret d => exact (show R = tidyR M (.ok d M') from q).symm
    | brk => exact q.elim
    | cont => exact q.elim
  · exact (show R = tidyR M (.exc x M') from q).symm
theorem tidyX_keep {M' : Mem} {e : Exn} (hb : bels M.length e.fs = true) (K : Keep [] M M') : tidyR M (.exc e M' : Res D) = .exc e M := by
  show Res.exc e (tidyM M (bels M.length e.fs) M') = _
  rw [tidyM_keep hb K]
/-- what is given, what is raised needs nothing of what was made -/
theorem run_flat (h : p.fn f = some F) (hl : ds.length = F.np) (w : AnyS (evSs ⟨run p k, p.gl⟩ F.body (envOf ds (F.nn - F.np)) M) (fnEnd fun d M' => R = .ok d M ∧ bel M.length d = true ∧ Keep [] M M') (fun e _ M' => R = .exc e M ∧ bels M.length e.fs = true ∧ Keep [] M M')) : run p (k + 1) f ds M = R := by
  refine run_any h hl ?_
  generalize evSs _ _ _ _ = r at w ⊢
  rcases w.get with ⟨fl, env, M', rfl, q⟩ | ⟨x, env, M', rfl, q1, q2, q3⟩
  · refine ⟨.inl ⟨fl, env, M', rfl, ?_⟩⟩
    cases fl with
    | next =>
      obtain ⟨q1, q2, q3⟩ := (show R = .ok .non M ∧ bel M.length .non = true ∧ Keep [] M M' from q)
      exact q1.trans (tidyR_keep q2 q3).symm
    | ret d =>
      obtain ⟨q1, q2, q3⟩ := (show R = .ok d M ∧ bel M.length d = true ∧ Keep [] M M' from q)
      exact q1.trans (tidyR_keep q2 q3).symm
    | brk => exact q.elim
    | cont => exact q.elim
  · exact ⟨.inr ⟨x, env, M', rfl, q1.trans (tidyX_keep q2 q3).symm⟩⟩
end
end Py

set_option Elab.async false
set_option autoImplicit false
set_option linter.all false
set_option maxRecDepth 100000
set_option maxHeartbeats 4000000
/-! P3: the draws: _law_cell, _law_draws, _law_next, _law_big. -/
namespace Py
open PySem L2
structure Lib0 (p : Prog) : Prop where
  h3 : p.fn 3 = some f3_law_cell
  h4 : p.fn 4 = some f4_law_draws
  h5 : p.fn 5 = some f5_law_next
/-- a stock of draws at n, its row at r -/
def Draws (M : Mem) (n r : Nat) : Prop := ∃ (at_ : Nat) (row : List Int), M[n]? = some (.lst [.int at_, .obj r]) ∧ M[r]? = some (.lst (row.map D.int)) ∧ row.length ≤ 1000
theorem Draws.ne {M : Mem} {n r : Nat} (h : Draws M n r) : r ≠ n := by
  obtain ⟨at_, row, h1, h2, _⟩ := h
  rintro rfl
  rw [h1] at h2
  have h3 : [D.int at_, .obj r] = row.map D.int := by
    have := Option.some.inj h2
    injection this
  match row, h3 with
  | [], h => cases h
  | [a], h => cases h
  | a :: b :: l, h =>
    injection h with _ h
    injection h with h _
    cases h
theorem Draws.lt {M : Mem} {n r : Nat} (h : Draws M n r) : n < M.length := by
  obtain ⟨a, row, h1, h2, h3⟩ := h
  exact lt_of_get h1
theorem Draws.rlt {M : Mem} {n r : Nat} (h : Draws M n r) : r < M.length := by
  obtain ⟨a, row, h1, h2, h3⟩ := h
  exact lt_of_get h2
theorem Draws.keep {M M' : Mem} {n r : Nat} {S : List Nat} (h : Draws M n r) (k : Keep S M M') (hn : n ∉ S) (hr : r ∉ S) : Draws M' n r := by
  obtain ⟨a, row, h1, h2, h3⟩ := h
  exact ⟨a, row, k.get h1 hn, k.get h2 hr, h3⟩
theorem Draws.pure {M M' : Mem} {n r : Nat} (h : Draws M n r) (k : Keep [] M M') : Draws M' n r := h.keep k (by simp) (by simp)
theorem Draws.set {M : Mem} {n r m : Nat} {o : MO} (h : Draws M n r) (hn : n ≠ m) (hr : r ≠ m) : Draws (M.set m o) n r := h.keep (S := [m]) (Keep.set (by simp)) (by simpa using hn) (by simpa using hr)
/-- two stocks -/
theorem Draws.two {M : Mem} {n r n' r' : Nat} (h : Draws M n r) (h' : Draws M n' r') : r ≠ n' := by
  obtain ⟨at_, row, h1, h2, _⟩ := h
  obtain ⟨at_', row', h1', h2', _⟩ := h'
  rintro rfl
  rw [h1'] at h2
  have h3 : [D.int at_', .obj r'] = row.map D.int := by
    have := Option.some.inj h2
    injection this
  match row, h3 with
  | [], h => cases h
  | [a], h => cases h
  | a :: b :: l, h =>
    injection h with _ h
    injection h with h _
    cases h
theorem Draws.app {M : Mem} {n r : Nat} (h : Draws M n r) (L : Mem) : Draws (M ++ L) n r := by
  have h1 := h.lt
  have h2 := h.rlt
  obtain ⟨a, row, g1, g2, g3⟩ := h
  exact ⟨a, row, by rw [List.getElem?_append_left h1]; exact g1, by rw [List.getElem?_append_left h2]; exact g2, g3⟩
/-- only the stock at n has gone on -/
structure Adv (n : Nat) (M A : Mem) : Prop where
  len : A.length = M.length
  at_ : ∀ i, i ≠ n → A[i]? = M[i]?
theorem Adv.refl {n : Nat} {M : Mem} : Adv n M M := ⟨rfl, fun _ _ => rfl⟩
theorem Adv.trans {n : Nat} {M A B : Mem} (a : Adv n M A) (b : Adv n A B) : Adv n M B := ⟨b.len.trans a.len, fun i h => (b.at_ i h).trans (a.at_ i h)⟩
theorem Adv.get {n i : Nat} {M A : Mem} {o : MO} (a : Adv n M A) (h : M[i]? = some o) (hi : i ≠ n) : A[i]? = some o := (a.at_ i hi).trans h
theorem Adv.keep {n : Nat} {M A : Mem} (a : Adv n M A) : Keep [n] M A := ⟨Nat.le_of_eq a.len.symm, fun i _ h => a.at_ i (by simpa using h)⟩
theorem Draws.adv {M A : Mem} {n n' r' : Nat} (h : Draws M n' r') (a : Adv n M A) (h1 : n' ≠ n) (h2 : r' ≠ n) : Draws A n' r' := h.keep a.keep (by simpa using h1) (by simpa using h2)
/-- what a drawing def promises that gives what needs nothing new -/
structure DrawnF (M : Mem) (n r : Nat) (Q : D → Prop) (d : D) (M' : Mem) : Prop where
  q : Q d
  dr : Draws M' n r
  adv : Adv n M M'
theorem Ok.dr {A L : Mem} {n r : Nat} {R : Res D} {Q : D → Prop} (h : Ok R (DrawnF (A ++ L) n r Q)) (hd : Draws A n r) : ∃ d A', R = .ok d (A' ++ L) ∧ Q d ∧ Draws A' n r ∧ Adv n A A' := by
  obtain ⟨d, M', e, q, d', a⟩ := h.get
  have hn := hd.lt
  have hr := hd.rlt
  have hl : A.length ≤ M'.length := by have := a.len; rw [List.length_append] at this; omega
  refine ⟨d, M'.take A.length, ?_, q, ?_, ?_⟩
  · rw [e]
    congr 1
    refine List.ext_getElem? fun i => ?_
    by_cases hi : i < A.length
    · rw [List.getElem?_append_left (by rw [List.length_take]; omega), List.getElem?_take_of_lt hi]
    · rw [List.getElem?_append_right (by rw [List.length_take]; omega), a.at_ i (by omega), List.getElem?_append_right (by omega), List.length_take, Nat.min_eq_left hl]
  · obtain ⟨at_, row, g1, g2, g3⟩ := d'
    exact ⟨at_, row, by rw [List.getElem?_take_of_lt hn]; exact g1, by rw [List.getElem?_take_of_lt hr]; exact g2, g3⟩
  · refine ⟨by rw [List.length_take]; omega, fun i hi => ?_⟩
    by_cases h : i < A.length
    · rw [List.getElem?_take_of_lt h, a.at_ i hi, List.getElem?_append_left h]
    · rw [List.getElem?_eq_none (by rw [List.length_take]; omega), List.getElem?_eq_none (by omega)]
theorem Ok.dr0 {A : Mem} {n r : Nat} {R : Res D} {Q : D → Prop} (h : Ok R (DrawnF A n r Q)) : ∃ d A', R = .ok d A' ∧ Q d ∧ Draws A' n r ∧ Adv n A A' := by
  obtain ⟨d, M', e, q, d', a⟩ := h.get
  exact ⟨d, M', e, q, d', a⟩
/-- a drawing def: what it leaves behind the memory goes -/
theorem run_drawn {p : Prog} {k f n r : Nat} {F : Fn} {ds : List D} {M : Mem} {Q : D → Prop} (h : p.fn f = some F) (hl : ds.length = F.np) (hd : Draws M n r) (hb : ∀ d, Q d → bel M.length d = true)
    (w : OkS (evSs ⟨run p k, p.gl⟩ F.body (envOf ds (F.nn - F.np)) M) (fnEnd fun d M' => ∃ A L, M' = A ++ L ∧ Q d ∧ Draws A n r ∧ Adv n M A)) : Ok (run p (k + 1) f ds M) (DrawnF M n r Q) := by
  obtain ⟨d, M', ⟨A, L, rfl, q, d', a⟩, e⟩ := run_raw h hl w
  have hr := hd.rlt
  have hn := hd.lt
  have ok : TidyOk M (A ++ L) := by
    refine ⟨by rw [List.length_append, a.len]; omega, fun i hi => ?_⟩
    rw [List.getElem?_append_left (by rw [a.len]; exact hi)]
    by_cases h : i = n
    · subst h
      obtain ⟨at_, row, g1, g2, g3⟩ := d'
      exact .inr ⟨_, g1, by show (true && (decide (r < M.length) && true)) = true; rw [decide_eq_true hr]; rfl⟩
    · exact .inl (a.at_ i h)
  refine ⟨d, A, ?_, q, d', a⟩
  rw [e, tidyD_ok (hb d q) ok, ← a.len, List.take_left]
theorem tidyOk_adv {A L M : Mem} {n r : Nat} (hd : Draws M n r) (d' : Draws A n r) (a : Adv n M A) : TidyOk M (A ++ L) := by
  have hr := hd.rlt
  refine ⟨by rw [List.length_append, a.len]; omega, fun i hi => ?_⟩
  rw [List.getElem?_append_left (by rw [a.len]; exact hi)]
  by_cases h : i = n
  · subst h
    obtain ⟨at_, row, g1, g2, g3⟩ := d'
    exact .inr ⟨_, g1, by show (true && (decide (r < M.length) && true)) = true; rw [decide_eq_true hr]; rfl⟩
  · exact .inl (a.at_ i h)
theorem tidyR_adv {A L M : Mem} {n r : Nat} {d : D} (hd : Draws M n r) (d' : Draws A n r) (a : Adv n M A) (hb : bel M.length d = true) : tidyR M (.ok d (A ++ L)) = .ok d A := by
  show Res.ok (tidyD M d (A ++ L)).1 (tidyD M d (A ++ L)).2 = _
  rw [tidyD_ok hb (tidyOk_adv hd d' a), ← a.len, List.take_left]
/-- .. that gives one new thing -/
theorem run_drawnN {p : Prog} {k f n r : Nat} {F : Fn} {ds : List D} {M : Mem} {P : MO → Prop} (h : p.fn f = some F) (hl : ds.length = F.np) (hd : Draws M n r) (hb : ∀ o, P o → belM M.length o = true)
    (w : OkS (evSs ⟨run p k, p.gl⟩ F.body (envOf ds (F.nn - F.np)) M) (fnEnd fun d M' => ∃ A L m o, M' = A ++ L ∧ d = .obj m ∧ M.length ≤ m ∧ M'[m]? = some o ∧ P o ∧ Draws A n r ∧ Adv n M A)) : ∃ o A, run p (k + 1) f ds M = .ok (.obj M.length) (A ++ [o]) ∧ P o ∧ Draws A n r ∧ Adv n M A := by
  obtain ⟨d, M', ⟨A, L, m, o, rfl, rfl, h1, h2, h3, d', a⟩, e⟩ := run_raw h hl w
  have hr := hd.rlt
  have hn := hd.lt
  have ok : TidyOk M (A ++ L) := by
    refine ⟨by rw [List.length_append, a.len]; omega, fun i hi => ?_⟩
    rw [List.getElem?_append_left (by rw [a.len]; exact hi)]
    by_cases h : i = n
    · subst h
      obtain ⟨at_, row, g1, g2, g3⟩ := d'
      exact .inr ⟨_, g1, by show (true && (decide (r < M.length) && true)) = true; rw [decide_eq_true hr]; rfl⟩
    · exact .inl (a.at_ i h)
  refine ⟨o, A, ?_, h3, d', a⟩
  rw [e, tidyD_obj h1 h2 (hb o h3) ok, ← a.len, List.take_left]
/-- .. whose new thing holds new things: it all stays -/
theorem tidyD_out {M M' : Mem} {k : Nat} {o : MO} (hk : M.length ≤ k) (ho : M'[k]? = some o) (hb : belM M.length o = false) : tidyD M (.obj k) M' = (.obj k, M') := by
  show (if k < M.length then _ else _) = _
  rw [if_neg (by omega), ho]
  show @ite _ _ (Classical.propDecidable _) _ _ = _
  rw [if_neg]
  rintro ⟨h, _⟩
  rw [hb] at h
  cases h
theorem adv_app {A L M' : Mem} {n r : Nat} (hd : Draws A n r) (d' : Draws M' n r) (a : Adv n (A ++ L) M') : ∃ A', M' = A' ++ L ∧ Draws A' n r ∧ Adv n A A' := by
  obtain ⟨d, A', e, _, h1, h2⟩ := (show Ok (.ok (.non : D) M') (DrawnF (A ++ L) n r fun _ => True) from ⟨_, _, rfl, trivial, d', a⟩).dr hd
  cases e
  exact ⟨A', rfl, h1, h2⟩
section
variable {p : Prog} {k : Nat} {M : Mem}
theorem run_cell (L : Lib0 p) (ns : List Int) (i : Nat) : ∃ z : Int, run p (k + 1) 3 [.rol (ns.map D.int), .int i] M = .ok (.int z) M := by
  by_cases h : (i : Int) < (ns.length : Int)
  · have h' : i < ns.length := by simpa using h
    refine ⟨ns[i], run_eq L.h3 rfl ?_⟩
    unfold f3_law_cell
    simp only [List.length_map, List.length_cons, List.length_nil, List.length_append, Y0, Y1, Y2, Y3, Y4, Y5, Y6, Y7, Y8, Y9, Y10, Y11, List.getElem?_cons_zero, List.getElem?_cons_succ, Option.bind_some, Option.map_some, id_eq, List.set_cons_zero, List.set_cons_succ, Bool.not_true, Bool.not_false, decide_true, decide_false, Nat.zero_le, Nat.zero_add, Int.toNat_zero, Int.toNat_one, Nat.reduceSub, Nat.reduceAdd, Nat.reduceLeDiff, Int.reduceEq, Int.reduceLT, Int.reduceLE, Int.reduceNeg, Int.reduceAdd, Int.reduceSub, Int.reduceToNat, h, at_lt (show (0 : Int) ≤ (i : Int) by omega) (show (i : Int) < ((ns.map D.int).length : Int) by rw [ml_map]; exact h)]
    rw [show ((i : Int).toNat) = i from rfl, List.getElem?_map, List.getElem?_eq_getElem h']
    simp only [List.length_map, List.length_cons, List.length_nil, List.length_append, Y0, Y1, Y2, Y3, Y4, Y5, Y6, Y7, Y8, Y9, Y10, Y11, List.getElem?_cons_zero, List.getElem?_cons_succ, Option.bind_some, Option.map_some, id_eq, List.set_cons_zero, List.set_cons_succ, Bool.not_true, Bool.not_false, decide_true, decide_false, Nat.zero_le, Nat.zero_add, Int.toNat_zero, Int.toNat_one, Nat.reduceSub, Nat.reduceAdd, Nat.reduceLeDiff, Int.reduceEq, Int.reduceLT, Int.reduceLE, Int.reduceNeg, Int.reduceAdd, Int.reduceSub, Int.reduceToNat]
    exact ⟨rfl, rfl⟩
  · refine ⟨0, run_eq L.h3 rfl ?_⟩
    unfold f3_law_cell
    simp only [List.length_map, List.length_cons, List.length_nil, List.length_append, Y0, Y1, Y2, Y3, Y4, Y5, Y6, Y7, Y8, Y9, Y10, Y11, List.getElem?_cons_zero, List.getElem?_cons_succ, Option.bind_some, Option.map_some, id_eq, List.set_cons_zero, List.set_cons_succ, Bool.not_true, Bool.not_false, decide_true, decide_false, Nat.zero_le, Nat.zero_add, Int.toNat_zero, Int.toNat_one, Nat.reduceSub, Nat.reduceAdd, Nat.reduceLeDiff, Int.reduceEq, Int.reduceLT, Int.reduceLE, Int.reduceNeg, Int.reduceAdd, Int.reduceSub, Int.reduceToNat, h]
    exact ⟨rfl, rfl⟩
theorem run_nextD (L : Lib0 p) {n r : Nat} (h : Draws M n r) {m : Int} (hm : 0 < m) : Ok (run p (k + 1) 5 [.obj n, .int m] M) (DrawnF M n r fun d => ∃ z : Int, d = .int z ∧ 0 ≤ z ∧ z < m) := by
  refine run_drawn L.h5 rfl h (fun d ⟨z, e, _⟩ => by subst e; rfl) ?_
  have hrn := h.ne
  obtain ⟨a, row, h1, h2, h3⟩ := h
  unfold f5_law_next
  have hlt := lt_of_get h1
  let M1 : Mem := M.set n (.lst [.int ((a : Int) + 1), .obj r])
  have g1 : M1[n]? = some (.lst [.int ((a : Int) + 1), .obj r]) := List.getElem?_set_self hlt
  have g2 : M1[r]? = some (.lst (row.map D.int)) := by
    show (M.set n _)[r]? = _
    rw [List.getElem?_set_ne (Ne.symm hrn)]; exact h2
  have hd : Draws M1 n r := ⟨a + 1, row, g1, g2, h3⟩
  have ha : Adv n M M1 := ⟨by show (M.set n _).length = _; simp, fun i hi => by show (M.set n _)[i]? = _; rw [List.getElem?_set_ne (Ne.symm hi)]⟩
  simp only [List.length_map, List.length_cons, List.length_nil, List.length_append, Y0, Y1, Y2, Y3, Y4, Y5, Y6, Y7, Y8, Y9, Y10, Y11, List.getElem?_cons_zero, List.getElem?_cons_succ, Option.bind_some, Option.map_some, id_eq, List.set_cons_zero, List.set_cons_succ, Bool.not_true, Bool.not_false, decide_true, decide_false, Nat.zero_le, Nat.zero_add, Int.toNat_zero, Int.toNat_one, Nat.reduceSub, Nat.reduceAdd, Nat.reduceLeDiff, Int.reduceEq, Int.reduceLT, Int.reduceLE, Int.reduceNeg, Int.reduceAdd, Int.reduceSub, Int.reduceToNat, h1, si_lst h1 (Int.le_refl 0) (show (0 : Int) < (([D.int a, .obj r] : List D).length : Int) by simp), Int.toNat_zero, (show (M.set n (.lst [.int ((a : Int) + 1), .obj r])) = M1 from rfl), g1, g2]
  by_cases hc : (row.length : Int) ≤ (a : Int)
  · simp only [List.length_map, List.length_cons, List.length_nil, List.length_append, Y0, Y1, Y2, Y3, Y4, Y5, Y6, Y7, Y8, Y9, Y10, Y11, List.getElem?_cons_zero, List.getElem?_cons_succ, Option.bind_some, Option.map_some, id_eq, List.set_cons_zero, List.set_cons_succ, Bool.not_true, Bool.not_false, decide_true, decide_false, Nat.zero_le, Nat.zero_add, Int.toNat_zero, Int.toNat_one, Nat.reduceSub, Nat.reduceAdd, Nat.reduceLeDiff, Int.reduceEq, Int.reduceLT, Int.reduceLE, Int.reduceNeg, Int.reduceAdd, Int.reduceSub, Int.reduceToNat, hc]
    exact ⟨M1, [], (List.append_nil _).symm, ⟨0, rfl, Int.le_refl _, hm⟩, hd, ha⟩
  · have hc' : a < row.length := by simpa using hc
    simp only [List.length_map, List.length_cons, List.length_nil, List.length_append, Y0, Y1, Y2, Y3, Y4, Y5, Y6, Y7, Y8, Y9, Y10, Y11, List.getElem?_cons_zero, List.getElem?_cons_succ, Option.bind_some, Option.map_some, id_eq, List.set_cons_zero, List.set_cons_succ, Bool.not_true, Bool.not_false, decide_true, decide_false, Nat.zero_le, Nat.zero_add, Int.toNat_zero, Int.toNat_one, Nat.reduceSub, Nat.reduceAdd, Nat.reduceLeDiff, Int.reduceEq, Int.reduceLT, Int.reduceLE, Int.reduceNeg, Int.reduceAdd, Int.reduceSub, Int.reduceToNat, hc, g1, g2, at_lt (show (0 : Int) ≤ (a : Int) by omega) (show (a : Int) < ((row.map D.int).length : Int) by simpa using hc'), Int.toNat_natCast, List.getElem?_map, List.getElem?_eq_getElem hc', o_mod hm]
    exact ⟨M1, [], (List.append_nil _).symm, ⟨row[a] % m, rfl, Int.emod_nonneg _ (by omega), Int.emod_lt_of_pos _ hm⟩, hd, ha⟩
theorem run_next (L : Lib0 p) {A : Mem} {n r : Nat} (h : Draws A n r) {m : Int} (hm : 0 < m) (B : Mem) : ∃ (z : Int) (A' : Mem), run p (k + 1) 5 [.obj n, .int m] (A ++ B) = .ok (.int z) (A' ++ B) ∧ 0 ≤ z ∧ z < m ∧ Draws A' n r ∧ Adv n A A' := by
  obtain ⟨d, A', e, ⟨z, rfl, h1, h2⟩, h3, h4⟩ := (run_nextD L (k := k) (h.app B) hm).dr h
  exact ⟨z, A', e, h1, h2, h3, h4⟩
theorem run_next0 (L : Lib0 p) {A : Mem} {n r : Nat} (h : Draws A n r) {m : Int} (hm : 0 < m) : ∃ (z : Int) (A' : Mem), run p (k + 1) 5 [.obj n, .int m] A = .ok (.int z) A' ∧ 0 ≤ z ∧ z < m ∧ Draws A' n r ∧ Adv n A A' := by
  obtain ⟨d, A', e, ⟨z, rfl, h1, h2⟩, h3, h4⟩ := (run_nextD L (k := k) h hm).dr0
  exact ⟨z, A', e, h1, h2, h3, h4⟩
theorem mulK {i j : Int} (h1 : -(2 ^ 64) < j) (h2 : j < 2 ^ 64) : opBin .mul (.int i) (.int j) M = some (.int (i * j), M) := o_mul (by rw [small_of h1 h2, Bool.or_true])
theorem sizeL : sizeLine = 16777216 := rfl
theorem run_draws (L : Lib0 p) (z : Int) : Ok (run p (k + 1) 4 [.int z] M) fun d M' => ∃ n r, d = .obj n ∧ Draws M' n r ∧ M.length ≤ n ∧ M.length ≤ r ∧ Keep [] M M' := by
  suffices w : OkS (evSs ⟨run p k, p.gl⟩ f4_law_draws.body (envOf [.int z] (f4_law_draws.nn - f4_law_draws.np)) M) (fnEnd fun d M' => ∃ row : List Int, d = .obj (M.length + 1) ∧ M' = M ++ [.lst (row.map D.int), .lst [.int 0, .obj M.length]] ∧ row.length ≤ 1000) by
    obtain ⟨d, M', ⟨row, rfl, rfl, hr⟩, e⟩ := run_raw L.h4 rfl w
    have e2 : tidyD M (.obj (M.length + 1)) (M ++ [.lst (row.map D.int), .lst [.int 0, .obj M.length]]) = (.obj (M.length + 1), M ++ [.lst (row.map D.int), .lst [.int 0, .obj M.length]]) := by
      show (if M.length + 1 < M.length then _ else _) = _
      rw [if_neg (by omega), ga1 rfl]
      show @ite _ _ (Classical.propDecidable _) _ _ = _
      rw [if_neg]
      rintro ⟨h, _⟩
      have h : (true && (decide (M.length < M.length) && true)) = true := h
      simp at h
    rw [e2] at e
    exact ⟨_, _, e, M.length + 1, M.length, rfl, ⟨0, row, ga1 rfl, ga0 rfl, hr⟩, by omega, Nat.le_refl _, Keep.news⟩
  unfold f4_law_draws
  simp only [List.length_map, List.length_cons, List.length_nil, List.length_append, Y0, Y1, Y2, Y3, Y4, Y5, Y6, Y7, Y8, Y9, Y10, Y11, List.getElem?_cons_zero, List.getElem?_cons_succ, Option.bind_some, Option.map_some, id_eq, List.set_cons_zero, List.set_cons_succ, Bool.not_true, Bool.not_false, decide_true, decide_false, Nat.zero_le, Nat.zero_add, Int.toNat_zero, Int.toNat_one, Nat.reduceSub, Nat.reduceAdd, Nat.reduceLeDiff, Int.reduceEq, Int.reduceLT, Int.reduceLE, Int.reduceNeg, Int.reduceAdd, Int.reduceSub, Int.reduceToNat, o_mod (show (0 : Int) < 2147483647 by decide), o_pow (show (0 : Int) ≤ 18 ∧ (18 : Int) ≤ 1000000 ∧ (10 : Int).natAbs < 2 ^ 64 by decide), if_pos (show -big ≤ (160 : Int) ∧ (160 : Int) < big by decide)]
  generalize hr : (if z < 0 then -z else z) = rest
  have h0 : 0 ≤ rest := by subst hr; split <;> omega
  generalize hg : (decide ((10 : Int) ^ 18 ≤ rest)) = great
  refine seq_ok (fun env M' => ∃ (row : List Int) (rest mixed : Int) (x : Option D), env = [some (.int z), some (.obj M.length), some (.int rest), some (.int mixed), some (.bl great), x] ∧ row.length = 160 ∧ M' = M ++ [.lst (row.map D.int)]) ?_ ?_
  · refine for_rng (fun j env M' => ∃ (row : List Int) (rest mixed : Int) (x : Option D), env = [some (.int z), some (.obj M.length), some (.int rest), some (.int mixed), some (.bl great), x] ∧ 0 ≤ rest ∧ row.length = j ∧ M' = M ++ [.lst (row.map D.int)]) ⟨[], rest, _, none, rfl, h0, rfl, rfl⟩ ?_ ?_
    · rintro j env M1 ⟨row, rest, mixed, x, rfl, h0, hj, rfl⟩ hlt
      have hs := sizeL
      unfold xBody
      have hsz : row.length < sizeLine := by omega
      have fin : ∀ v : Int, row.map D.int ++ [.int v] = (row ++ [v]).map D.int := fun v => by rw [List.map_append]; rfl
      cases great with
      | false =>
        simp only [List.length_map, List.length_cons, List.length_nil, List.length_append, Y0, Y1, Y2, Y3, Y4, Y5, Y6, Y7, Y8, Y9, Y10, Y11, List.getElem?_cons_zero, List.getElem?_cons_succ, Option.bind_some, Option.map_some, id_eq, List.set_cons_zero, List.set_cons_succ, Bool.not_true, Bool.not_false, decide_true, decide_false, Nat.zero_le, Nat.zero_add, Int.toNat_zero, Int.toNat_one, Nat.reduceSub, Nat.reduceAdd, Nat.reduceLeDiff, Int.reduceEq, Int.reduceLT, Int.reduceLE, Int.reduceNeg, Int.reduceAdd, Int.reduceSub, Int.reduceToNat, o_mod (show (0 : Int) < 2147483647 by decide), mulK (show -(2 ^ 64) < (48271 : Int) by decide) (show (48271 : Int) < 2 ^ 64 by decide), hsz, o_fdiv (show (0 : Int) < 65536 ∧ (65536 : Int) < 1073741824 by decide)]
        exact ⟨row ++ [_], rest, _, _, rfl, h0, by simp [hj], by rw [fin]⟩
      | true =>
        by_cases hp : 0 < rest
        · simp only [List.length_map, List.length_cons, List.length_nil, List.length_append, Y0, Y1, Y2, Y3, Y4, Y5, Y6, Y7, Y8, Y9, Y10, Y11, List.getElem?_cons_zero, List.getElem?_cons_succ, Option.bind_some, Option.map_some, id_eq, List.set_cons_zero, List.set_cons_succ, Bool.not_true, Bool.not_false, decide_true, decide_false, Nat.zero_le, Nat.zero_add, Int.toNat_zero, Int.toNat_one, Nat.reduceSub, Nat.reduceAdd, Nat.reduceLeDiff, Int.reduceEq, Int.reduceLT, Int.reduceLE, Int.reduceNeg, Int.reduceAdd, Int.reduceSub, Int.reduceToNat, hp, hsz, o_mod (show (0 : Int) < 1000 by decide), o_fdiv (show (0 : Int) < 1000 ∧ (1000 : Int) < 1073741824 by decide)]
          exact ⟨row ++ [_], rest / 1000, _, _, rfl, Int.ediv_nonneg h0 (by decide), by simp [hj], by rw [fin]⟩
        · simp only [List.length_map, List.length_cons, List.length_nil, List.length_append, Y0, Y1, Y2, Y3, Y4, Y5, Y6, Y7, Y8, Y9, Y10, Y11, List.getElem?_cons_zero, List.getElem?_cons_succ, Option.bind_some, Option.map_some, id_eq, List.set_cons_zero, List.set_cons_succ, Bool.not_true, Bool.not_false, decide_true, decide_false, Nat.zero_le, Nat.zero_add, Int.toNat_zero, Int.toNat_one, Nat.reduceSub, Nat.reduceAdd, Nat.reduceLeDiff, Int.reduceEq, Int.reduceLT, Int.reduceLE, Int.reduceNeg, Int.reduceAdd, Int.reduceSub, Int.reduceToNat, hp, hsz, o_mod (show (0 : Int) < 2147483647 by decide), mulK (show -(2 ^ 64) < (48271 : Int) by decide) (show (48271 : Int) < 2 ^ 64 by decide), o_fdiv (show (0 : Int) < 65536 ∧ (65536 : Int) < 1073741824 by decide)]
          exact ⟨row ++ [_], rest, _, _, rfl, h0, by simp [hj], by rw [fin]⟩
    · rintro env M1 ⟨row, rest, mixed, x, rfl, h0, hj, rfl⟩
      exact ⟨row, rest, mixed, x, rfl, hj, rfl⟩
  · rintro env M1 ⟨row, rest, mixed, x, rfl, hj, rfl⟩
    simp only [List.length_map, List.length_cons, List.length_nil, List.length_append, Y0, Y1, Y2, Y3, Y4, Y5, Y6, Y7, Y8, Y9, Y10, Y11, List.getElem?_cons_zero, List.getElem?_cons_succ, Option.bind_some, Option.map_some, id_eq, List.set_cons_zero, List.set_cons_succ, Bool.not_true, Bool.not_false, decide_true, decide_false, Nat.zero_le, Nat.zero_add, Int.toNat_zero, Int.toNat_one, Nat.reduceSub, Nat.reduceAdd, Nat.reduceLeDiff, Int.reduceEq, Int.reduceLT, Int.reduceLE, Int.reduceNeg, Int.reduceAdd, Int.reduceSub, Int.reduceToNat]
    exact ⟨row, rfl, rfl, by omega⟩
end
/-- a comprehension whose turns change the memory ahead of the new list -/
theorem lc_adv {turn : D → Mem → Res (Option D)} {N : Nat} (I : List D → List D → Mem → Prop) : ∀ {xs ys : List D} {A : Mem}, A.length = N → I xs ys A → ys.length + xs.length ≤ sizeLine →
    (∀ d ds ys A, I (d :: ds) ys A → A.length = N → ∃ o A', turn d (A ++ [.lst ys]) = .ok o (A' ++ [.lst ys]) ∧ A'.length = N ∧ I ds (ys ++ o.toList) A') →
    ∃ ys' A', lcSeq turn N xs (A ++ [.lst ys]) = .ok () (A' ++ [.lst ys']) ∧ A'.length = N ∧ I [] ys' A'
  | [], ys, A, hA, h, _, _ => ⟨ys, A, rfl, hA, h⟩
  | d :: ds, ys, A, hA, h, hl, b => by
    obtain ⟨o, A', e, hA', h'⟩ := b d ds ys A h hA
    simp only [List.length_cons] at hl
    unfold lcSeq
    rw [e]
    cases o with
    | none =>
      simp only [Option.toList_none, List.append_nil] at h'
      exact lc_adv I hA' h' (by omega) b
    | some y =>
      show ∃ ys' A2, (match appendAt N y (A' ++ [.lst ys]) with | some M'' => lcSeq turn N ds M'' | none => .bad) = .ok () (A2 ++ [.lst ys']) ∧ A2.length = N ∧ I [] ys' A2
      have ea : appendAt N y (A' ++ [.lst ys]) = some (A' ++ [.lst (ys ++ [y])]) := by
        unfold appendAt
        rw [ga0 hA']
        show (if ys.length < sizeLine then _ else _) = _
        rw [if_pos (by omega), sa0 hA']
      rw [ea]
      exact lc_adv I hA' h' (by simp only [List.length_append, List.length_cons, List.length_nil]; omega) b
theorem lcWk_live {turn : D → Mem → Res (Option D)} {n0 n : Nat} {ln : Nat → Nat} {M : Mem} : lcWk turn n0 (.live n) ln M = lcLive turn n0 n (ln n) 0 M := (rfl)
theorem lenAt_lst {M : Mem} {n : Nat} {xs : List D} (h : M[n]? = some (.lst xs)) : lenAt M n = xs.length := by unfold lenAt; rw [h]
/-- .. over a list that stays as it is -/
theorem lc_advL {turn : D → Mem → Res (Option D)} {N n : Nat} {zs : List D} (I : List D → List D → Mem → Prop) {A : Mem} (hA : A.length = N) (hn : A[n]? = some (.lst zs)) (hI : I zs [] A) (hl : zs.length ≤ sizeLine)
    (b : ∀ d ds ys A, I (d :: ds) ys A → A.length = N → A[n]? = some (.lst zs) → ∃ o A', turn d (A ++ [.lst ys]) = .ok o (A' ++ [.lst ys]) ∧ A'.length = N ∧ A'[n]? = some (.lst zs) ∧ I ds (ys ++ o.toList) A') :
    ∃ ys' A', lcLive turn N n (lenAt A n) 0 (A ++ [.lst []]) = .ok () (A' ++ [.lst ys']) ∧ A'.length = N ∧ A'[n]? = some (.lst zs) ∧ I [] ys' A' := by
  have key : ∀ (r i : Nat) (ys : List D) (A : Mem), i + r = zs.length → ys.length ≤ i → A.length = N → A[n]? = some (.lst zs) → I (zs.drop i) ys A →
      ∃ ys' A', lcLive turn N n r i (A ++ [.lst ys]) = .ok () (A' ++ [.lst ys']) ∧ A'.length = N ∧ A'[n]? = some (.lst zs) ∧ I [] ys' A' := by
    intro r
    induction r with
    | zero =>
      intro i ys A hi hy hA hn hI
      have hlt := lt_of_get hn
      rw [List.drop_eq_nil_of_le (by omega)] at hI
      refine ⟨ys, A, ?_, hA, hn, hI⟩
      unfold lcLive
      rw [List.getElem?_append_left hlt, hn]
      simp only
      rw [if_pos (by omega)]
    | succ r ih =>
      intro i ys A hi hy hA hn hI
      have hlt := lt_of_get hn
      have hi' : i < zs.length := by omega
      rw [List.drop_eq_getElem_cons hi'] at hI
      obtain ⟨o, A', e, hA', hn', hI'⟩ := b _ _ ys A hI hA hn
      unfold lcLive
      rw [List.getElem?_append_left hlt, hn]
      simp only [List.getElem?_eq_getElem hi']
      rw [e]
      cases o with
      | none =>
        simp only [Option.toList_none, List.append_nil] at hI'
        exact ih (i + 1) ys A' (by omega) (by omega) hA' hn' hI'
      | some y =>
        show ∃ ys' A2, (match appendAt N y (A' ++ [.lst ys]) with | some M'' => lcLive turn N n r (i + 1) M'' | none => .bad) = .ok () (A2 ++ [.lst ys']) ∧ A2.length = N ∧ A2[n]? = some (.lst zs) ∧ I [] ys' A2
        have ea : appendAt N y (A' ++ [.lst ys]) = some (A' ++ [.lst (ys ++ [y])]) := by
          unfold appendAt
          rw [ga0 hA']
          show (if ys.length < sizeLine then _ else _) = _
          rw [if_pos (by omega), sa0 hA']
        rw [ea]
        exact ih (i + 1) (ys ++ [y]) A' (by omega) (by simp; omega) hA' hn' hI'
  rw [lenAt_lst hn]
  exact key zs.length 0 [] A (by omega) (by simp) hA hn (by simpa using hI)
/-- .. whose turns only give values -/
theorem lc_mapL {turn : D → Mem → Res (Option D)} {M : Mem} {n : Nat} {zs : List D} (g : D → Option D) (hn : M[n]? = some (.lst zs)) (hl : zs.length ≤ sizeLine) (h : ∀ d ∈ zs, ∀ ys, turn d (M ++ [.lst ys]) = .ok (g d) (M ++ [.lst ys])) :
    lcLive turn M.length n (lenAt M n) 0 (M ++ [.lst []]) = .ok () (M ++ [.lst (zs.filterMap g)]) := by
  obtain ⟨ys, A, e, _, _, rfl, ⟨done, h1, h2⟩⟩ := lc_advL (turn := turn) (N := M.length) (n := n) (zs := zs) (fun ds ys A => A = M ∧ ∃ done, zs = done ++ ds ∧ ys = done.filterMap g) rfl hn ⟨rfl, [], rfl, rfl⟩ hl (by
    rintro d ds ys A ⟨rfl, done, h1, rfl⟩ _ hn'
    refine ⟨g d, A, h d (by rw [h1]; simp) _, rfl, hn', rfl, done ++ [d], by rw [h1]; simp, ?_⟩
    rw [List.filterMap_append]
    cases hg : g d with
    | none => rw [List.filterMap_cons_none hg]; rfl
    | some y => rw [List.filterMap_cons_some hg]; rfl)
  rw [e, h2, h1, List.append_nil]
/-- a comprehension over typed things -/
theorem lc_go {α : Type} {turn : D → Mem → Res (Option D)} {N : Nat} {f : α → D} {X Y B : Mem} (ts : List α) (g : α → Option D) (hN : B.length = N) (hX : X = B ++ [.lst []]) (hY : Y = B ++ [.lst (ts.filterMap g)]) (hl : ts.length ≤ sizeLine)
    (h : ∀ t ∈ ts, ∀ ys, turn (f t) (B ++ [.lst ys]) = .ok (g t) (B ++ [.lst ys])) : lcSeq turn N (ts.map f) X = .ok () Y := by
  subst hX hY
  have key : ∀ (xs : List α) (ys : List D), ys.length + xs.length ≤ sizeLine → (∀ d ∈ xs, ∀ ys, turn (f d) (B ++ [.lst ys]) = .ok (g d) (B ++ [.lst ys])) → lcSeq turn N (xs.map f) (B ++ [.lst ys]) = .ok () (B ++ [.lst (ys ++ xs.filterMap g)]) := by
    intro xs
    induction xs with
    | nil => intro ys _ _; show Res.ok () _ = _; simp
    | cons d xs ih =>
      intro ys hl h
      simp only [List.length_cons] at hl
      rw [List.map_cons]
      unfold lcSeq
      rw [h d List.mem_cons_self]
      show (match g d with | some y => _ | none => _) = _
      cases hg : g d with
      | none =>
        rw [List.filterMap_cons_none hg]
        exact ih ys (by omega) fun d hd => h d (List.mem_cons_of_mem _ hd)
      | some y =>
        show (match appendAt N y (B ++ [.lst ys]) with | some M'' => lcSeq turn N (xs.map f) M'' | none => .bad) = _
        have e : appendAt N y (B ++ [.lst ys]) = some (B ++ [.lst (ys ++ [y])]) := by
          unfold appendAt
          rw [ga0 hN]
          show (if ys.length < sizeLine then _ else _) = _
          rw [if_pos (by omega), sa0 hN]
        rw [e]
        rw [List.filterMap_cons_some hg]
        have := ih (ys ++ [y]) (by simp; omega) fun d hd => h d (List.mem_cons_of_mem _ hd)
        simpa using this
  have := key ts [] (by simpa using hl) h
  simpa using this
/-- .. over a list in the memory -/
theorem lc_goL {α : Type} {turn : D → Mem → Res (Option D)} {N n m : Nat} {f : α → D} {X Y B : Mem} (ts : List α) (g : α → Option D) (hN : B.length = N) (hn : B[n]? = some (.lst (ts.map f))) (hm : m = ts.length) (hX : X = B ++ [.lst []]) (hY : Y = B ++ [.lst (ts.filterMap g)]) (hl : ts.length ≤ sizeLine)
    (h : ∀ t ∈ ts, ∀ ys, turn (f t) (B ++ [.lst ys]) = .ok (g t) (B ++ [.lst ys])) : lcLive turn N n m 0 X = .ok () Y := by
  subst hX hY hm
  have hlt := lt_of_get hn
  have key : ∀ (r i : Nat) (ys : List D), i + r = ts.length → ys.length ≤ i → lcLive turn N n r i (B ++ [.lst ys]) = .ok () (B ++ [.lst (ys ++ (ts.drop i).filterMap g)]) := by
    intro r
    induction r with
    | zero =>
      intro i ys hi hy
      unfold lcLive
      rw [List.getElem?_append_left hlt, hn]
      simp only
      rw [if_pos (by simp; omega), List.drop_eq_nil_of_le (by omega)]
      simp
    | succ r ih =>
      intro i ys hi hy
      have hi' : i < ts.length := by omega
      unfold lcLive
      rw [List.getElem?_append_left hlt, hn]
      simp only [List.getElem?_map, List.getElem?_eq_getElem hi', Option.map_some]
      rw [h _ (List.getElem_mem hi'), List.drop_eq_getElem_cons hi']
      show (match g ts[i] with | some y => _ | none => _) = _
      cases hg : g ts[i] with
      | none =>
        rw [List.filterMap_cons_none hg]
        exact ih (i + 1) ys (by omega) (by omega)
      | some y =>
        show (match appendAt N y (B ++ [.lst ys]) with | some M'' => lcLive turn N n r (i + 1) M'' | none => .bad) = _
        have e : appendAt N y (B ++ [.lst ys]) = some (B ++ [.lst (ys ++ [y])]) := by
          unfold appendAt
          rw [ga0 hN]
          show (if ys.length < sizeLine then _ else _) = _
          rw [if_pos (by omega), sa0 hN]
        rw [e, List.filterMap_cons_some hg]
        have := ih (i + 1) (ys ++ [y]) (by omega) (by simp; omega)
        simpa using this
  have := key ts.length 0 [] (by omega) (by simp)
  simpa using this
theorem filterMap_if {α : Type} {f : α → D} {q : α → Bool} : ∀ {xs : List α}, xs.filterMap (fun x => if q x then some (f x) else none) = (xs.filter q).map f
  | [] => rfl
  | x :: xs => by
    cases hq : q x with
    | true => rw [List.filterMap_cons_some (by rw [hq]; rfl), List.filter_cons_of_pos hq, List.map_cons, filterMap_if]
    | false => rw [List.filterMap_cons_none (by rw [hq]; rfl), List.filter_cons_of_neg (by rw [hq]; exact Bool.false_ne_true), filterMap_if]
theorem run_true {p : Prog} {k f : Nat} {F : Fn} {ds : List D} {M : Mem} (h : p.fn f = some F) (hl : ds.length = F.np) (w : OkS (evSs ⟨run p k, p.gl⟩ F.body (envOf ds (F.nn - F.np)) M) (fnEnd fun d _ => d = .bl true)) : ∃ M', run p (k + 1) f ds M = .ok (.bl true) M' := by
  obtain ⟨d, M', rfl, e⟩ := run_raw h hl w
  exact ⟨_, e⟩
end Py

set_option Elab.async false
set_option autoImplicit false
set_option linter.all false
set_option maxRecDepth 100000
set_option maxHeartbeats 4000000
/-! P4: data: equality, in. -/
namespace Py
open PySem L2
theorem Ok.eq {α : Type} {r : Res α} {a : α} {M : Mem} (h : Ok r fun d M' => d = a ∧ M' = M) : r = .ok a M := by
  obtain ⟨d, M', e, rfl, rfl⟩ := h.get
  exact e
theorem flats_int : ∀ ns : List Int, flats (ns.map D.int) = true
  | [] => rfl
  | n :: ns => by show (true && flats (ns.map D.int)) = true; rw [flats_int ns]; rfl
theorem lay_int : ∀ ns : List Int, PyData.canLayAll0 (pys (ns.map D.int)) = true
  | [] => rfl
  | n :: ns => by show (true && PyData.canLayAll0 (pys (ns.map D.int))) = true; rw [lay_int ns]; rfl
theorem any_int (n : Int) : ∀ ns : List Int, ((pys (ns.map D.int)).any fun z => PyData.eqv z (.int n)) = ns.contains n
  | [] => rfl
  | m :: ns => by
    show ((m == n) || ((pys (ns.map D.int)).any fun z => PyData.eqv z (.int n))) = _
    rw [any_int n ns, List.contains_cons]
    congr 1
    show decide (m = n) = decide (n = m)
    exact decide_eq_decide.mpr eq_comm
section
variable {M : Mem} {n : Int} {ns : List Int}
theorem in_ints : opCmp .isin (.int n) (.tup (ns.map D.int)) M = some (ns.contains n) := by
  show (if flats (ns.map D.int) && flat (.int n) && okPy (.int n) && PyData.canLayAll0 (pys (ns.map D.int)) then some ((pys (ns.map D.int)).any fun z => PyData.eqv z (.int n)) else none) = _
  have e : okPy (.int n) = true := by
    unfold okPy
    simp [PyData.canLay0, PyData.depth]
  rw [flats_int, lay_int, e, any_int]
  rfl
theorem nin_ints : opCmp .notin (.int n) (.tup (ns.map D.int)) M = some (!ns.contains n) := by
  show (opCmp .isin (.int n) (.tup (ns.map D.int)) M).map (!·) = _
  rw [in_ints]; rfl
end
theorem flats_str : ∀ ns : List (List Nat), flats (ns.map D.str) = true
  | [] => rfl
  | n :: ns => by show (true && flats (ns.map D.str)) = true; rw [flats_str ns]; rfl
/-- a name that can stand in any set of data -/
def nmOk (s : List Nat) : Bool := decide (s.length ≤ 1000) && s.all fun c => decide (c < 1114112)
theorem lay_one {n : List Nat} (h : nmOk n = true) : PyData.canLay0 (.str ⟨n.toArray⟩) = true := by
  unfold nmOk at h
  rw [Bool.and_eq_true] at h
  show PyData.strOk ⟨n.toArray⟩ = true
  show n.toArray.all _ = true
  rw [List.all_toArray]
  exact h.2
theorem lay_str : ∀ ns : List (List Nat), (∀ s ∈ ns, nmOk s = true) → PyData.canLayAll0 (pys (ns.map D.str)) = true
  | [], _ => rfl
  | n :: ns, h => by
    show (PyData.canLay0 (.str ⟨n.toArray⟩) && PyData.canLayAll0 (pys (ns.map D.str))) = true
    rw [lay_str ns fun s hs => h s (List.mem_cons_of_mem _ hs)]
    rw [lay_one (h n List.mem_cons_self)]; rfl
theorem any_str (n : List Nat) : ∀ ns : List (List Nat), ((pys (ns.map D.str)).any fun z => PyData.eqv z (.str ⟨n.toArray⟩)) = ns.contains n
  | [] => rfl
  | m :: ns => by
    show (PyData.eqv (.str ⟨m.toArray⟩) (.str ⟨n.toArray⟩) || ((pys (ns.map D.str)).any fun z => PyData.eqv z (.str ⟨n.toArray⟩))) = _
    rw [any_str n ns, List.contains_cons]
    congr 1
    show decide ((⟨m.toArray⟩ : Str) = ⟨n.toArray⟩) = _
    by_cases e : m = n
    · subst e; simp
    · have e2 : ¬ (⟨m.toArray⟩ : Str) = ⟨n.toArray⟩ := by
        intro z
        have := congrArg (fun x : Str => x.cps.toList) z
        exact e (by simpa using this)
      have e3 : ¬ n = m := fun z => e z.symm
      simp [e2, e3]
section
variable {M : Mem} {n : List Nat} {ns : List (List Nat)} {m : Nat}
theorem okPy_str (h : nmOk n = true) : okPy (.str ⟨n.toArray⟩) = true := by
  unfold okPy
  rw [lay_one h]
  simp [PyData.depth]
theorem in_strsL (hm : M[m]? = some (.lst (ns.map D.str))) (h : ∀ s ∈ ns, nmOk s = true) (hn : nmOk n = true) : opCmp .isin (.str n) (.obj m) M = some (ns.contains n) := by
  show (match M[m]? with | some (.lst xs) => (if flats xs && flat (.str n) && okPy (py (.str n)) && PyData.canLayAll0 (pys xs) then some ((pys xs).any fun z => PyData.eqv z (py (.str n))) else none) | some (.dK kvs) => (match keyOf (.str n) with | some k => some (keyed k kvs).isSome | none => none) | some (.dL kvs) => (match keyOf (.str n) with | some k => some (keyed k kvs).isSome | none => none) | _ => none) = _
  rw [hm]
  show (if flats (ns.map D.str) && true && okPy (.str ⟨n.toArray⟩) && PyData.canLayAll0 (pys (ns.map D.str)) then some ((pys (ns.map D.str)).any fun z => PyData.eqv z (.str ⟨n.toArray⟩)) else none) = _
  rw [flats_str, lay_str ns h, okPy_str hn, any_str]
  rfl
end
end Py

set_option Elab.async false
set_option autoImplicit false
set_option linter.all false
set_option maxRecDepth 100000
set_option maxHeartbeats 4000000
/-! P5: leaves: how they are drawn, what is valid. -/
namespace Py
open PySem L2
structure LibL (p : Prog) : Prop extends Lib0 p where
  h6 : p.fn 6 = some f6_law_big
  h8 : p.fn 8 = some f8_law_ids
  h9 : p.fn 9 = some f9_law_split
  h10 : p.fn 10 = some f10_law_leaf
structure LibV (p : Prog) : Prop where
  h18 : p.fn 18 = some f18_are_ascending_ids
  h19 : p.fn 19 = some f19_have_common
  h20 : p.fn 20 = some f20_are_valid_ids
  h21 : p.fn 21 = some f21_is_valid_leaf
  g3 : p.gl 3 = some (.int 1000000000000000)
  g4 : p.gl 4 = some (.int 40)
  g5 : p.gl 5 = some (.int 99)
/-! ### ids -/
def ascB : Int → List Int → Bool
  | _, [] => true
  | l, n :: r => decide (l < n) && decide (n ≤ 99) && ascB n r
def okIds (live ret : List Int) (op : Bool) : Bool := ascB 0 live && ascB 0 ret && !(live.any ret.contains) && (op || (decide (ret = []) && decide (live ≠ [])))
inductive Leaf where
  | num (lo hi : Int)
  | txt (lo hi : Int)
  | cho (live ret : List Int) (op : Bool)
abbrev sNumber : List Nat := [110, 117, 109, 98, 101, 114]
abbrev sText : List Nat := [116, 101, 120, 116]
abbrev sChoice : List Nat := [99, 104, 111, 105, 99, 101]
def Leaf.d : Leaf → D
  | .num lo hi => .tup [.str sNumber, .int lo, .int hi]
  | .txt lo hi => .tup [.str sText, .int lo, .int hi]
  | .cho live ret op => .tup [.str sChoice, .tup (live.map D.int), .tup (ret.map D.int), .bl op]
/-- how many ids -/
def Leaf.sz : Leaf → Nat
  | .cho live ret _ => live.length + ret.length
  | _ => 0
def Leaf.ok : Leaf → Bool
  | .num lo hi => decide (-1000000000000000 ≤ lo) && decide (lo ≤ hi) && decide (hi ≤ 1000000000000000)
  | .txt lo hi => decide (0 ≤ lo) && decide (lo ≤ hi) && decide (hi ≤ 40)
  | .cho live ret op => okIds live ret op
section
variable {p : Prog} {k : Nat} {M : Mem}
theorem run_asc (V : LibV p) (ns : List Int) : run p (k + 1) 18 [.tup (ns.map D.int)] M = .ok (.bl (ascB 0 ns)) M := by
  refine run_eq V.h18 rfl ?_
  unfold f18_are_ascending_ids
  simp only [List.length_map, List.length_cons, List.length_nil, List.length_append, Y0, Y1, Y2, Y3, Y4, Y5, Y6, Y7, Y8, Y9, Y10, Y11, List.getElem?_cons_zero, List.getElem?_cons_succ, Option.bind_some, Option.map_some, id_eq, List.set_cons_zero, List.set_cons_succ, Bool.not_true, Bool.not_false, decide_true, decide_false, Nat.zero_le, Nat.zero_add, Int.toNat_zero, Int.toNat_one, Nat.reduceSub, Nat.reduceAdd, Nat.reduceLeDiff, Int.reduceEq, Int.reduceLT, Int.reduceLE, Int.reduceNeg, Int.reduceAdd, Int.reduceSub, Int.reduceToNat]
  apply OkS.seq
  refine for_inv (fun ds env M' => ∃ (ns' : List Int) (last : Int) (x : Option D), ds = ns'.map D.int ∧ env = [some (.tup (ns.map D.int)), some (.int last), x] ∧ M' = M ∧ ascB last ns' = ascB 0 ns) ⟨ns, 0, none, rfl, rfl, rfl, rfl⟩ ?_ ?_
  · rintro d ds env M' ⟨ns', last, x, e, rfl, rfl, h⟩
    cases ns' with
    | nil => cases e
    | cons n ns' =>
      cases e
      unfold xBody
      simp only [List.length_map, List.length_cons, List.length_nil, List.length_append, Y0, Y1, Y2, Y3, Y4, Y5, Y6, Y7, Y8, Y9, Y10, Y11, List.getElem?_cons_zero, List.getElem?_cons_succ, Option.bind_some, Option.map_some, id_eq, List.set_cons_zero, List.set_cons_succ, Bool.not_true, Bool.not_false, decide_true, decide_false, Nat.zero_le, Nat.zero_add, Int.toNat_zero, Int.toNat_one, Nat.reduceSub, Nat.reduceAdd, Nat.reduceLeDiff, Int.reduceEq, Int.reduceLT, Int.reduceLE, Int.reduceNeg, Int.reduceAdd, Int.reduceSub, Int.reduceToNat]
      have hh : ascB 0 ns = (decide (last < n) && decide (n ≤ 99) && ascB n ns') := h.symm
      by_cases h1 : last < n
      · by_cases h2 : n ≤ 99
        · simp only [List.length_map, List.length_cons, List.length_nil, List.length_append, Y0, Y1, Y2, Y3, Y4, Y5, Y6, Y7, Y8, Y9, Y10, Y11, List.getElem?_cons_zero, List.getElem?_cons_succ, Option.bind_some, Option.map_some, id_eq, List.set_cons_zero, List.set_cons_succ, Bool.not_true, Bool.not_false, decide_true, decide_false, Nat.zero_le, Nat.zero_add, Int.toNat_zero, Int.toNat_one, Nat.reduceSub, Nat.reduceAdd, Nat.reduceLeDiff, Int.reduceEq, Int.reduceLT, Int.reduceLE, Int.reduceNeg, Int.reduceAdd, Int.reduceSub, Int.reduceToNat, h1, V.g5, h2]
          refine ⟨ns', n, _, (by first | rfl | trivial), (by first | rfl | trivial), (by first | rfl | trivial), ?_⟩
          rw [hh, decide_eq_true h1, decide_eq_true h2]; rfl
        · simp only [List.length_map, List.length_cons, List.length_nil, List.length_append, Y0, Y1, Y2, Y3, Y4, Y5, Y6, Y7, Y8, Y9, Y10, Y11, List.getElem?_cons_zero, List.getElem?_cons_succ, Option.bind_some, Option.map_some, id_eq, List.set_cons_zero, List.set_cons_succ, Bool.not_true, Bool.not_false, decide_true, decide_false, Nat.zero_le, Nat.zero_add, Int.toNat_zero, Int.toNat_one, Nat.reduceSub, Nat.reduceAdd, Nat.reduceLeDiff, Int.reduceEq, Int.reduceLT, Int.reduceLE, Int.reduceNeg, Int.reduceAdd, Int.reduceSub, Int.reduceToNat, h1, V.g5, h2]
          exact ⟨by rw [hh, decide_eq_true h1, decide_eq_false h2]; rfl, (by first | rfl | trivial)⟩
      · simp only [List.length_map, List.length_cons, List.length_nil, List.length_append, Y0, Y1, Y2, Y3, Y4, Y5, Y6, Y7, Y8, Y9, Y10, Y11, List.getElem?_cons_zero, List.getElem?_cons_succ, Option.bind_some, Option.map_some, id_eq, List.set_cons_zero, List.set_cons_succ, Bool.not_true, Bool.not_false, decide_true, decide_false, Nat.zero_le, Nat.zero_add, Int.toNat_zero, Int.toNat_one, Nat.reduceSub, Nat.reduceAdd, Nat.reduceLeDiff, Int.reduceEq, Int.reduceLT, Int.reduceLE, Int.reduceNeg, Int.reduceAdd, Int.reduceSub, Int.reduceToNat, h1]
        exact ⟨by rw [hh, decide_eq_false h1]; rfl, (by first | rfl | trivial)⟩
  · rintro env M' ⟨ns', last, x, e, rfl, rfl, h⟩
    cases ns' with
    | cons => cases e
    | nil =>
      simp only [List.length_map, List.length_cons, List.length_nil, List.length_append, Y0, Y1, Y2, Y3, Y4, Y5, Y6, Y7, Y8, Y9, Y10, Y11, List.getElem?_cons_zero, List.getElem?_cons_succ, Option.bind_some, Option.map_some, id_eq, List.set_cons_zero, List.set_cons_succ, Bool.not_true, Bool.not_false, decide_true, decide_false, Nat.zero_le, Nat.zero_add, Int.toNat_zero, Int.toNat_one, Nat.reduceSub, Nat.reduceAdd, Nat.reduceLeDiff, Int.reduceEq, Int.reduceLT, Int.reduceLE, Int.reduceNeg, Int.reduceAdd, Int.reduceSub, Int.reduceToNat]
      exact ⟨by rw [← h]; rfl, (by first | rfl | trivial)⟩
theorem run_common (V : LibV p) (ns ms : List Int) : run p (k + 1) 19 [.tup (ns.map D.int), .tup (ms.map D.int)] M = .ok (.bl (ns.any ms.contains)) M := by
  refine run_eq V.h19 rfl ?_
  unfold f19_have_common
  simp only [List.length_map, List.length_cons, List.length_nil, List.length_append, Y0, Y1, Y2, Y3, Y4, Y5, Y6, Y7, Y8, Y9, Y10, Y11, List.getElem?_cons_zero, List.getElem?_cons_succ, Option.bind_some, Option.map_some, id_eq, List.set_cons_zero, List.set_cons_succ, Bool.not_true, Bool.not_false, decide_true, decide_false, Nat.zero_le, Nat.zero_add, Int.toNat_zero, Int.toNat_one, Nat.reduceSub, Nat.reduceAdd, Nat.reduceLeDiff, Int.reduceEq, Int.reduceLT, Int.reduceLE, Int.reduceNeg, Int.reduceAdd, Int.reduceSub, Int.reduceToNat]
  apply OkS.seq
  refine for_inv (fun ds env M' => ∃ (ns' : List Int) (x : Option D), ds = ns'.map D.int ∧ env = [some (.tup (ns.map D.int)), some (.tup (ms.map D.int)), x] ∧ M' = M ∧ ns'.any ms.contains = ns.any ms.contains) ⟨ns, none, rfl, rfl, rfl, rfl⟩ ?_ ?_
  · rintro d ds env M' ⟨ns', x, e, rfl, rfl, h⟩
    cases ns' with
    | nil => cases e
    | cons n ns' =>
      cases e
      unfold xBody
      rw [List.any_cons] at h
      cases h1 : ms.contains n with
      | true =>
        simp only [List.length_map, List.length_cons, List.length_nil, List.length_append, Y0, Y1, Y2, Y3, Y4, Y5, Y6, Y7, Y8, Y9, Y10, Y11, List.getElem?_cons_zero, List.getElem?_cons_succ, Option.bind_some, Option.map_some, id_eq, List.set_cons_zero, List.set_cons_succ, Bool.not_true, Bool.not_false, decide_true, decide_false, Nat.zero_le, Nat.zero_add, Int.toNat_zero, Int.toNat_one, Nat.reduceSub, Nat.reduceAdd, Nat.reduceLeDiff, Int.reduceEq, Int.reduceLT, Int.reduceLE, Int.reduceNeg, Int.reduceAdd, Int.reduceSub, Int.reduceToNat, in_ints, h1]
        exact ⟨by rw [← h, h1]; rfl, (by first | rfl | trivial)⟩
      | false =>
        simp only [List.length_map, List.length_cons, List.length_nil, List.length_append, Y0, Y1, Y2, Y3, Y4, Y5, Y6, Y7, Y8, Y9, Y10, Y11, List.getElem?_cons_zero, List.getElem?_cons_succ, Option.bind_some, Option.map_some, id_eq, List.set_cons_zero, List.set_cons_succ, Bool.not_true, Bool.not_false, decide_true, decide_false, Nat.zero_le, Nat.zero_add, Int.toNat_zero, Int.toNat_one, Nat.reduceSub, Nat.reduceAdd, Nat.reduceLeDiff, Int.reduceEq, Int.reduceLT, Int.reduceLE, Int.reduceNeg, Int.reduceAdd, Int.reduceSub, Int.reduceToNat, in_ints, h1]
        refine ⟨ns', _, (by first | rfl | trivial), (by first | rfl | trivial), (by first | rfl | trivial), ?_⟩
        rw [← h, h1]; rfl
  · rintro env M' ⟨ns', x, e, rfl, rfl, h⟩
    cases ns' with
    | cons => cases e
    | nil =>
      simp only [List.length_map, List.length_cons, List.length_nil, List.length_append, Y0, Y1, Y2, Y3, Y4, Y5, Y6, Y7, Y8, Y9, Y10, Y11, List.getElem?_cons_zero, List.getElem?_cons_succ, Option.bind_some, Option.map_some, id_eq, List.set_cons_zero, List.set_cons_succ, Bool.not_true, Bool.not_false, decide_true, decide_false, Nat.zero_le, Nat.zero_add, Int.toNat_zero, Int.toNat_one, Nat.reduceSub, Nat.reduceAdd, Nat.reduceLeDiff, Int.reduceEq, Int.reduceLT, Int.reduceLE, Int.reduceNeg, Int.reduceAdd, Int.reduceSub, Int.reduceToNat]
      exact ⟨by rw [← h]; rfl, (by first | rfl | trivial)⟩
theorem run_valid_ids (V : LibV p) (live ret : List Int) (op : Bool) : run p (k + 2) 20 [.tup (live.map D.int), .tup (ret.map D.int), .bl op] M = .ok (.bl (okIds live ret op)) M := by
  refine run_eq V.h20 rfl ?_
  unfold f20_are_valid_ids okIds
  cases h1 : ascB 0 live with
  | false => (simp only [List.length_map, List.length_cons, List.length_nil, List.length_append, Y0, Y1, Y2, Y3, Y4, Y5, Y6, Y7, Y8, Y9, Y10, Y11, List.getElem?_cons_zero, List.getElem?_cons_succ, Option.bind_some, Option.map_some, id_eq, List.set_cons_zero, List.set_cons_succ, Bool.not_true, Bool.not_false, decide_true, decide_false, Nat.zero_le, Nat.zero_add, Int.toNat_zero, Int.toNat_one, Nat.reduceSub, Nat.reduceAdd, Nat.reduceLeDiff, Int.reduceEq, Int.reduceLT, Int.reduceLE, Int.reduceNeg, Int.reduceAdd, Int.reduceSub, Int.reduceToNat, run_asc V, h1] <;> first | rfl | exact ⟨rfl, rfl⟩ | (refine ⟨?_, rfl⟩; first | rfl | (simp [run_asc V, h1]; done)))
  | true =>
    cases h2 : ascB 0 ret with
    | false => (simp only [List.length_map, List.length_cons, List.length_nil, List.length_append, Y0, Y1, Y2, Y3, Y4, Y5, Y6, Y7, Y8, Y9, Y10, Y11, List.getElem?_cons_zero, List.getElem?_cons_succ, Option.bind_some, Option.map_some, id_eq, List.set_cons_zero, List.set_cons_succ, Bool.not_true, Bool.not_false, decide_true, decide_false, Nat.zero_le, Nat.zero_add, Int.toNat_zero, Int.toNat_one, Nat.reduceSub, Nat.reduceAdd, Nat.reduceLeDiff, Int.reduceEq, Int.reduceLT, Int.reduceLE, Int.reduceNeg, Int.reduceAdd, Int.reduceSub, Int.reduceToNat, run_asc V, h1, h2] <;> first | rfl | exact ⟨rfl, rfl⟩ | (refine ⟨?_, rfl⟩; first | rfl | (simp [run_asc V, h1, h2]; done)))
    | true =>
      cases h3 : live.any ret.contains with
      | true => (simp only [List.length_map, List.length_cons, List.length_nil, List.length_append, Y0, Y1, Y2, Y3, Y4, Y5, Y6, Y7, Y8, Y9, Y10, Y11, List.getElem?_cons_zero, List.getElem?_cons_succ, Option.bind_some, Option.map_some, id_eq, List.set_cons_zero, List.set_cons_succ, Bool.not_true, Bool.not_false, decide_true, decide_false, Nat.zero_le, Nat.zero_add, Int.toNat_zero, Int.toNat_one, Nat.reduceSub, Nat.reduceAdd, Nat.reduceLeDiff, Int.reduceEq, Int.reduceLT, Int.reduceLE, Int.reduceNeg, Int.reduceAdd, Int.reduceSub, Int.reduceToNat, run_asc V, run_common V, h1, h2, h3] <;> first | rfl | exact ⟨rfl, rfl⟩ | (refine ⟨?_, rfl⟩; first | rfl | (simp [run_asc V, run_common V, h1, h2, h3]; done)))
      | false =>
        simp only [List.length_map, List.length_cons, List.length_nil, List.length_append, Y0, Y1, Y2, Y3, Y4, Y5, Y6, Y7, Y8, Y9, Y10, Y11, List.getElem?_cons_zero, List.getElem?_cons_succ, Option.bind_some, Option.map_some, id_eq, List.set_cons_zero, List.set_cons_succ, Bool.not_true, Bool.not_false, decide_true, decide_false, Nat.zero_le, Nat.zero_add, Int.toNat_zero, Int.toNat_one, Nat.reduceSub, Nat.reduceAdd, Nat.reduceLeDiff, Int.reduceEq, Int.reduceLT, Int.reduceLE, Int.reduceNeg, Int.reduceAdd, Int.reduceSub, Int.reduceToNat, run_asc V, run_common V, h1, h2, h3]
        cases op with
        | true => (simp only [List.length_map, List.length_cons, List.length_nil, List.length_append, Y0, Y1, Y2, Y3, Y4, Y5, Y6, Y7, Y8, Y9, Y10, Y11, List.getElem?_cons_zero, List.getElem?_cons_succ, Option.bind_some, Option.map_some, id_eq, List.set_cons_zero, List.set_cons_succ, Bool.not_true, Bool.not_false, decide_true, decide_false, Nat.zero_le, Nat.zero_add, Int.toNat_zero, Int.toNat_one, Nat.reduceSub, Nat.reduceAdd, Nat.reduceLeDiff, Int.reduceEq, Int.reduceLT, Int.reduceLE, Int.reduceNeg, Int.reduceAdd, Int.reduceSub, Int.reduceToNat] <;> first | rfl | exact ⟨rfl, rfl⟩ | (refine ⟨?_, rfl⟩; first | rfl | (simp; done)))
        | false =>
          cases ret with
          | cons a l => 
            simp only [List.length_map, List.length_cons, List.length_nil, List.length_append, Y0, Y1, Y2, Y3, Y4, Y5, Y6, Y7, Y8, Y9, Y10, Y11, List.getElem?_cons_zero, List.getElem?_cons_succ, Option.bind_some, Option.map_some, id_eq, List.set_cons_zero, List.set_cons_succ, Bool.not_true, Bool.not_false, decide_true, decide_false, Nat.zero_le, Nat.zero_add, Int.toNat_zero, Int.toNat_one, Nat.reduceSub, Nat.reduceAdd, Nat.reduceLeDiff, Int.reduceEq, Int.reduceLT, Int.reduceLE, Int.reduceNeg, Int.reduceAdd, Int.reduceSub, Int.reduceToNat, show decide (((l.length + 1 : Nat) : Int) = 0) = false from decide_eq_false (by omega)]
            exact ⟨by simp, rfl⟩
          | nil =>
            cases live with
            | nil =>
              simp only [List.length_map, List.length_cons, List.length_nil, List.length_append, Y0, Y1, Y2, Y3, Y4, Y5, Y6, Y7, Y8, Y9, Y10, Y11, List.getElem?_cons_zero, List.getElem?_cons_succ, Option.bind_some, Option.map_some, id_eq, List.set_cons_zero, List.set_cons_succ, Bool.not_true, Bool.not_false, decide_true, decide_false, Nat.zero_le, Nat.zero_add, Int.toNat_zero, Int.toNat_one, Nat.reduceSub, Nat.reduceAdd, Nat.reduceLeDiff, Int.reduceEq, Int.reduceLT, Int.reduceLE, Int.reduceNeg, Int.reduceAdd, Int.reduceSub, Int.reduceToNat, show decide (((0 : Nat) : Int) = 0) = true from rfl, show decide ((0 : Int) < ((0 : Nat) : Int)) = false from rfl]
              exact ⟨rfl, rfl⟩
            | cons a l =>
              simp only [List.length_map, List.length_cons, List.length_nil, List.length_append, Y0, Y1, Y2, Y3, Y4, Y5, Y6, Y7, Y8, Y9, Y10, Y11, List.getElem?_cons_zero, List.getElem?_cons_succ, Option.bind_some, Option.map_some, id_eq, List.set_cons_zero, List.set_cons_succ, Bool.not_true, Bool.not_false, decide_true, decide_false, Nat.zero_le, Nat.zero_add, Int.toNat_zero, Int.toNat_one, Nat.reduceSub, Nat.reduceAdd, Nat.reduceLeDiff, Int.reduceEq, Int.reduceLT, Int.reduceLE, Int.reduceNeg, Int.reduceAdd, Int.reduceSub, Int.reduceToNat, show decide ((0 : Int) < ((l.length + 1 : Nat) : Int)) = true from decide_eq_true (by omega), show decide (((0 : Nat) : Int) = 0) = true from rfl]
              exact ⟨by simp, rfl⟩
theorem run_valid (V : LibV p) (l : Leaf) : run p (k + 3) 21 [l.d] M = .ok (.bl l.ok) M := by
  refine run_eq V.h21 rfl ?_
  unfold f21_is_valid_leaf
  cases l with
  | num lo hi =>
    unfold Leaf.d Leaf.ok
    by_cases h1 : -1000000000000000 ≤ lo
    · by_cases h2 : lo ≤ hi
      · (simp only [List.length_map, List.length_cons, List.length_nil, List.length_append, Y0, Y1, Y2, Y3, Y4, Y5, Y6, Y7, Y8, Y9, Y10, Y11, List.getElem?_cons_zero, List.getElem?_cons_succ, Option.bind_some, Option.map_some, id_eq, List.set_cons_zero, List.set_cons_succ, Bool.not_true, Bool.not_false, decide_true, decide_false, Nat.zero_le, Nat.zero_add, Int.toNat_zero, Int.toNat_one, Nat.reduceSub, Nat.reduceAdd, Nat.reduceLeDiff, Int.reduceEq, Int.reduceLT, Int.reduceLE, Int.reduceNeg, Int.reduceAdd, Int.reduceSub, Int.reduceToNat, V.g3, h1, h2, show (sNumber == sNumber) = true from rfl] <;> first | rfl | exact ⟨rfl, rfl⟩ | (refine ⟨?_, rfl⟩; first | rfl | (simp [V.g3, h1, h2, show (sNumber == sNumber) = true from rfl]; done)))
      · (simp only [List.length_map, List.length_cons, List.length_nil, List.length_append, Y0, Y1, Y2, Y3, Y4, Y5, Y6, Y7, Y8, Y9, Y10, Y11, List.getElem?_cons_zero, List.getElem?_cons_succ, Option.bind_some, Option.map_some, id_eq, List.set_cons_zero, List.set_cons_succ, Bool.not_true, Bool.not_false, decide_true, decide_false, Nat.zero_le, Nat.zero_add, Int.toNat_zero, Int.toNat_one, Nat.reduceSub, Nat.reduceAdd, Nat.reduceLeDiff, Int.reduceEq, Int.reduceLT, Int.reduceLE, Int.reduceNeg, Int.reduceAdd, Int.reduceSub, Int.reduceToNat, V.g3, h1, h2, show (sNumber == sNumber) = true from rfl] <;> first | rfl | exact ⟨rfl, rfl⟩ | (refine ⟨?_, rfl⟩; first | rfl | (simp [V.g3, h1, h2, show (sNumber == sNumber) = true from rfl]; done)))
    · (simp only [List.length_map, List.length_cons, List.length_nil, List.length_append, Y0, Y1, Y2, Y3, Y4, Y5, Y6, Y7, Y8, Y9, Y10, Y11, List.getElem?_cons_zero, List.getElem?_cons_succ, Option.bind_some, Option.map_some, id_eq, List.set_cons_zero, List.set_cons_succ, Bool.not_true, Bool.not_false, decide_true, decide_false, Nat.zero_le, Nat.zero_add, Int.toNat_zero, Int.toNat_one, Nat.reduceSub, Nat.reduceAdd, Nat.reduceLeDiff, Int.reduceEq, Int.reduceLT, Int.reduceLE, Int.reduceNeg, Int.reduceAdd, Int.reduceSub, Int.reduceToNat, V.g3, h1, show (sNumber == sNumber) = true from rfl] <;> first | rfl | exact ⟨rfl, rfl⟩ | (refine ⟨?_, rfl⟩; first | rfl | (simp [V.g3, h1, show (sNumber == sNumber) = true from rfl]; done)))
  | txt lo hi =>
    unfold Leaf.d Leaf.ok
    by_cases h1 : 0 ≤ lo
    · by_cases h2 : lo ≤ hi
      · (simp only [List.length_map, List.length_cons, List.length_nil, List.length_append, Y0, Y1, Y2, Y3, Y4, Y5, Y6, Y7, Y8, Y9, Y10, Y11, List.getElem?_cons_zero, List.getElem?_cons_succ, Option.bind_some, Option.map_some, id_eq, List.set_cons_zero, List.set_cons_succ, Bool.not_true, Bool.not_false, decide_true, decide_false, Nat.zero_le, Nat.zero_add, Int.toNat_zero, Int.toNat_one, Nat.reduceSub, Nat.reduceAdd, Nat.reduceLeDiff, Int.reduceEq, Int.reduceLT, Int.reduceLE, Int.reduceNeg, Int.reduceAdd, Int.reduceSub, Int.reduceToNat, V.g4, h1, h2, show (sText == sNumber) = false from rfl, show (sText == sText) = true from rfl] <;> first | rfl | exact ⟨rfl, rfl⟩ | (refine ⟨?_, rfl⟩; first | rfl | (simp [V.g4, h1, h2, show (sText == sNumber) = false from rfl, show (sText == sText) = true from rfl]; done)))
      · (simp only [List.length_map, List.length_cons, List.length_nil, List.length_append, Y0, Y1, Y2, Y3, Y4, Y5, Y6, Y7, Y8, Y9, Y10, Y11, List.getElem?_cons_zero, List.getElem?_cons_succ, Option.bind_some, Option.map_some, id_eq, List.set_cons_zero, List.set_cons_succ, Bool.not_true, Bool.not_false, decide_true, decide_false, Nat.zero_le, Nat.zero_add, Int.toNat_zero, Int.toNat_one, Nat.reduceSub, Nat.reduceAdd, Nat.reduceLeDiff, Int.reduceEq, Int.reduceLT, Int.reduceLE, Int.reduceNeg, Int.reduceAdd, Int.reduceSub, Int.reduceToNat, V.g4, h1, h2, show (sText == sNumber) = false from rfl, show (sText == sText) = true from rfl] <;> first | rfl | exact ⟨rfl, rfl⟩ | (refine ⟨?_, rfl⟩; first | rfl | (simp [V.g4, h1, h2, show (sText == sNumber) = false from rfl, show (sText == sText) = true from rfl]; done)))
    · (simp only [List.length_map, List.length_cons, List.length_nil, List.length_append, Y0, Y1, Y2, Y3, Y4, Y5, Y6, Y7, Y8, Y9, Y10, Y11, List.getElem?_cons_zero, List.getElem?_cons_succ, Option.bind_some, Option.map_some, id_eq, List.set_cons_zero, List.set_cons_succ, Bool.not_true, Bool.not_false, decide_true, decide_false, Nat.zero_le, Nat.zero_add, Int.toNat_zero, Int.toNat_one, Nat.reduceSub, Nat.reduceAdd, Nat.reduceLeDiff, Int.reduceEq, Int.reduceLT, Int.reduceLE, Int.reduceNeg, Int.reduceAdd, Int.reduceSub, Int.reduceToNat, V.g4, h1, show (sText == sNumber) = false from rfl, show (sText == sText) = true from rfl] <;> first | rfl | exact ⟨rfl, rfl⟩ | (refine ⟨?_, rfl⟩; first | rfl | (simp [V.g4, h1, show (sText == sNumber) = false from rfl, show (sText == sText) = true from rfl]; done)))
  | cho live ret op =>
    unfold Leaf.d Leaf.ok
    (simp only [List.length_map, List.length_cons, List.length_nil, List.length_append, Y0, Y1, Y2, Y3, Y4, Y5, Y6, Y7, Y8, Y9, Y10, Y11, List.getElem?_cons_zero, List.getElem?_cons_succ, Option.bind_some, Option.map_some, id_eq, List.set_cons_zero, List.set_cons_succ, Bool.not_true, Bool.not_false, decide_true, decide_false, Nat.zero_le, Nat.zero_add, Int.toNat_zero, Int.toNat_one, Nat.reduceSub, Nat.reduceAdd, Nat.reduceLeDiff, Int.reduceEq, Int.reduceLT, Int.reduceLE, Int.reduceNeg, Int.reduceAdd, Int.reduceSub, Int.reduceToNat, run_valid_ids V, show (sChoice == sNumber) = false from rfl, show (sChoice == sText) = false from rfl] <;> first | rfl | exact ⟨rfl, rfl⟩ | (refine ⟨?_, rfl⟩; first | rfl | (simp [run_valid_ids V, show (sChoice == sNumber) = false from rfl, show (sChoice == sText) = false from rfl]; done)))
/-! ### how they are drawn -/
theorem mulKc {i j : Int} (h : small j = true) : opBin .mul (.int i) (.int j) M = some (.int (i * j), M) := o_mul (by rw [h, Bool.or_true])
theorem run_big (L : LibL p) {n r : Nat} (h : Draws M n r) : Ok (run p (k + 2) 6 [.obj n] M) (DrawnF M n r fun d => ∃ z : Int, d = .int z ∧ 0 ≤ z) := by
  refine run_drawn L.h6 rfl h (fun d ⟨z, e, _⟩ => by subst e; rfl) ?_
  unfold f6_law_big
  simp only [List.length_map, List.length_cons, List.length_nil, List.length_append, Y0, Y1, Y2, Y3, Y4, Y5, Y6, Y7, Y8, Y9, Y10, Y11, List.getElem?_cons_zero, List.getElem?_cons_succ, Option.bind_some, Option.map_some, id_eq, List.set_cons_zero, List.set_cons_succ, Bool.not_true, Bool.not_false, decide_true, decide_false, Nat.zero_le, Nat.zero_add, Int.toNat_zero, Int.toNat_one, Nat.reduceSub, Nat.reduceAdd, Nat.reduceLeDiff, Int.reduceEq, Int.reduceLT, Int.reduceLE, Int.reduceNeg, Int.reduceAdd, Int.reduceSub, Int.reduceToNat, if_pos (show -big ≤ (6 : Int) ∧ (6 : Int) < big by decide)]
  apply OkS.seq
  refine for_rng (fun j env M' => ∃ (z : Int) (x : Option D), env = [some (.obj n), some (.int z), x] ∧ 0 ≤ z ∧ Draws M' n r ∧ Adv n M M') ⟨0, none, rfl, Int.le_refl _, h, Adv.refl⟩ ?_ ?_
  · rintro j env M1 ⟨z, x, rfl, hz, hd, hk⟩ _
    unfold xBody
    obtain ⟨y, M2, e, h0, h1, hd', hk'⟩ := run_next0 (k := k) L.toLib0 hd (show (0 : Int) < 1000 by decide)
    simp only [List.length_map, List.length_cons, List.length_nil, List.length_append, Y0, Y1, Y2, Y3, Y4, Y5, Y6, Y7, Y8, Y9, Y10, Y11, List.getElem?_cons_zero, List.getElem?_cons_succ, Option.bind_some, Option.map_some, id_eq, List.set_cons_zero, List.set_cons_succ, Bool.not_true, Bool.not_false, decide_true, decide_false, Nat.zero_le, Nat.zero_add, Int.toNat_zero, Int.toNat_one, Nat.reduceSub, Nat.reduceAdd, Nat.reduceLeDiff, Int.reduceEq, Int.reduceLT, Int.reduceLE, Int.reduceNeg, Int.reduceAdd, Int.reduceSub, Int.reduceToNat, mulKc (show small 1000 = true by decide), e]
    exact ⟨_, _, rfl, by omega, hd', hk.trans hk'⟩
  · rintro env M1 ⟨z, x, rfl, hz, hd, hk⟩
    simp only [List.length_map, List.length_cons, List.length_nil, List.length_append, Y0, Y1, Y2, Y3, Y4, Y5, Y6, Y7, Y8, Y9, Y10, Y11, List.getElem?_cons_zero, List.getElem?_cons_succ, Option.bind_some, Option.map_some, id_eq, List.set_cons_zero, List.set_cons_succ, Bool.not_true, Bool.not_false, decide_true, decide_false, Nat.zero_le, Nat.zero_add, Int.toNat_zero, Int.toNat_one, Nat.reduceSub, Nat.reduceAdd, Nat.reduceLeDiff, Int.reduceEq, Int.reduceLT, Int.reduceLE, Int.reduceNeg, Int.reduceAdd, Int.reduceSub, Int.reduceToNat]
    exact ⟨M1, [], ma_nil'.symm, ⟨z, rfl, hz⟩, hd, hk⟩
theorem ascB_append {l : Int} {ns : List Int} {m : Int} (h : ascB l ns = true) (h1 : ∀ z ∈ l :: ns, z < m) (h2 : m ≤ 99) : ascB l (ns ++ [m]) = true := by
  induction ns generalizing l with
  | nil =>
    have := h1 l (by simp)
    simp [ascB, this, h2]
  | cons a ns ih =>
    simp only [ascB, Bool.and_eq_true, decide_eq_true_eq, List.cons_append] at h ⊢
    exact ⟨h.1, ih h.2 fun z hz => h1 z (List.mem_cons_of_mem _ hz)⟩
theorem ascB_le {l : Int} {ns : List Int} (h : ascB l ns = true) : ∀ z ∈ ns, l < z ∧ z ≤ 99 := by
  induction ns generalizing l with
  | nil => intro z hz; cases hz
  | cons a ns ih =>
    simp only [ascB, Bool.and_eq_true, decide_eq_true_eq] at h
    intro z hz
    rcases List.mem_cons.mp hz with rfl | hz
    · exact h.1
    · have := ih h.2 z hz
      omega
theorem bels_int {n : Nat} : ∀ ns : List Int, bels n (ns.map D.int) = true
  | [] => rfl
  | _ :: ns => bels_int ns
theorem map_snoc {ns : List Int} {z : Int} : ns.map D.int ++ [.int z] = (ns ++ [z]).map D.int := by rw [List.map_append]; rfl
/-- ids: a new list -/
theorem run_ids (L : LibL p) {n r : Nat} (h : Draws M n r) {most : Nat} (hm : most ≤ 20) : ∃ (ns : List Int) (A : Mem), run p (k + 2) 8 [.obj n, .int most] M = .ok (.obj M.length) (A ++ [.lst (ns.map D.int)]) ∧ ascB 0 ns = true ∧ ns.length ≤ most + 1 ∧ Draws A n r ∧ Adv n M A := by
  have hs := sizeL
  suffices w : ∃ o A, run p (k + 2) 8 [.obj n, .int most] M = .ok (.obj M.length) (A ++ [o]) ∧ (∃ ns : List Int, o = .lst (ns.map D.int) ∧ ascB 0 ns = true ∧ ns.length ≤ most + 1) ∧ Draws A n r ∧ Adv n M A by
    obtain ⟨o, A, e, ⟨ns, rfl, h1, h2⟩, h3, h4⟩ := w
    exact ⟨ns, A, e, h1, h2, h3, h4⟩
  refine run_drawnN L.h8 rfl h (fun o ⟨ns, e, _⟩ => by subst e; exact bels_int ns) ?_
  unfold f8_law_ids
  obtain ⟨c, M1, e, h0, h1, hd, hk⟩ := run_next (k := k) L.toLib0 h (show (0 : Int) < (most : Int) + 1 by omega) [.lst []]
  simp only [List.length_map, List.length_cons, List.length_nil, List.length_append, Y0, Y1, Y2, Y3, Y4, Y5, Y6, Y7, Y8, Y9, Y10, Y11, List.getElem?_cons_zero, List.getElem?_cons_succ, Option.bind_some, Option.map_some, id_eq, List.set_cons_zero, List.set_cons_succ, Bool.not_true, Bool.not_false, decide_true, decide_false, Nat.zero_le, Nat.zero_add, Int.toNat_zero, Int.toNat_one, Nat.reduceSub, Nat.reduceAdd, Nat.reduceLeDiff, Int.reduceEq, Int.reduceLT, Int.reduceLE, Int.reduceNeg, Int.reduceAdd, Int.reduceSub, Int.reduceToNat, e, if_pos (show -big ≤ c ∧ c < big by have : big = 4611686018427387904 := rfl; omega)]
  apply OkS.seq
  refine for_rng (fun j env M' => ∃ (ns : List Int) (z : Int) (x : Option D) (A : Mem), env = [some (.obj n), some (.int most), some (.obj M.length), some (.int z), x] ∧ 0 ≤ z ∧ z ≤ 4 * (j : Int) ∧ ns.length = j ∧ (∀ y ∈ (0 : Int) :: ns, y ≤ z) ∧ ascB 0 ns = true ∧ M' = A ++ [.lst (ns.map D.int)] ∧ Draws A n r ∧ Adv n M A)
    ⟨[], 0, none, M1, rfl, by omega, by omega, rfl, by simp, rfl, rfl, hd, hk⟩ ?_ ?_
  · rintro j env M2 ⟨ns, z, x, A, rfl, hz, hz4, hl, hy, ha, rfl, hd2, hk2⟩ hlt
    unfold xBody
    obtain ⟨y, A3, e3, hy0, hy1, hd3, hk3⟩ := run_next (k := k) L.toLib0 hd2 (show (0 : Int) < 4 by decide) [.lst (ns.map D.int)]
    have hlen := (hk2.trans hk3).len
    simp only [List.length_map, List.length_cons, List.length_nil, List.length_append, Y0, Y1, Y2, Y3, Y4, Y5, Y6, Y7, Y8, Y9, Y10, Y11, List.getElem?_cons_zero, List.getElem?_cons_succ, Option.bind_some, Option.map_some, id_eq, List.set_cons_zero, List.set_cons_succ, Bool.not_true, Bool.not_false, decide_true, decide_false, Nat.zero_le, Nat.zero_add, Int.toNat_zero, Int.toNat_one, Nat.reduceSub, Nat.reduceAdd, Nat.reduceLeDiff, Int.reduceEq, Int.reduceLT, Int.reduceLE, Int.reduceNeg, Int.reduceAdd, Int.reduceSub, Int.reduceToNat, e3, hlen, show ns.length < sizeLine by omega, map_snoc]
    refine ⟨_, _, _, A3, rfl, by omega, by omega, by simp [hl], ?_, ascB_append ha (fun w hw => by have := hy w hw; omega) (by omega), rfl, hd3, hk2.trans hk3⟩
    intro w hw
    rcases List.mem_cons.mp hw with rfl | hw
    · omega
    · rcases List.mem_append.mp hw with hw | hw
      · have := hy w (List.mem_cons_of_mem _ hw); omega
      · have : w = z + 1 + y := by simpa using hw
        omega
  · rintro env M2 ⟨ns, z, x, A, rfl, hz, hz4, hl, hy, ha, rfl, hd2, hk2⟩
    obtain ⟨y, A3, e3, hy0, hy1, hd3, hk3⟩ := run_next (k := k) L.toLib0 hd2 (show (0 : Int) < 9 by decide) [.lst (ns.map D.int)]
    have hlen := (hk2.trans hk3).len
    have hc : (c - 0).toNat ≤ most := by omega
    by_cases h9 : y = 1
    · simp only [List.length_map, List.length_cons, List.length_nil, List.length_append, Y0, Y1, Y2, Y3, Y4, Y5, Y6, Y7, Y8, Y9, Y10, Y11, List.getElem?_cons_zero, List.getElem?_cons_succ, Option.bind_some, Option.map_some, id_eq, List.set_cons_zero, List.set_cons_succ, Bool.not_true, Bool.not_false, decide_true, decide_false, Nat.zero_le, Nat.zero_add, Int.toNat_zero, Int.toNat_one, Nat.reduceSub, Nat.reduceAdd, Nat.reduceLeDiff, Int.reduceEq, Int.reduceLT, Int.reduceLE, Int.reduceNeg, Int.reduceAdd, Int.reduceSub, Int.reduceToNat, e3, h9, hlen, show ns.length < sizeLine by omega, map_snoc]
      refine ⟨A3, [.lst ((ns ++ [99]).map D.int)], M.length, _, rfl, rfl, Nat.le_refl _, ga0 hlen, ⟨_, rfl, ascB_append ha (fun w hw => ?_) (by omega), by simp; omega⟩, hd3, hk2.trans hk3⟩
      have := hy w hw; omega
    · simp only [List.length_map, List.length_cons, List.length_nil, List.length_append, Y0, Y1, Y2, Y3, Y4, Y5, Y6, Y7, Y8, Y9, Y10, Y11, List.getElem?_cons_zero, List.getElem?_cons_succ, Option.bind_some, Option.map_some, id_eq, List.set_cons_zero, List.set_cons_succ, Bool.not_true, Bool.not_false, decide_true, decide_false, Nat.zero_le, Nat.zero_add, Int.toNat_zero, Int.toNat_one, Nat.reduceSub, Nat.reduceAdd, Nat.reduceLeDiff, Int.reduceEq, Int.reduceLT, Int.reduceLE, Int.reduceNeg, Int.reduceAdd, Int.reduceSub, Int.reduceToNat, e3, h9]
      exact ⟨A3, [.lst (ns.map D.int)], M.length, _, rfl, rfl, Nat.le_refl _, ga0 hlen, ⟨ns, rfl, ha, by omega⟩, hd3, hk2.trans hk3⟩
theorem asc_iff {l : Int} {ns : List Int} : ascB l ns = true ↔ (∀ z ∈ ns, l < z ∧ z ≤ 99) ∧ ns.Pairwise (· < ·) := by
  induction ns generalizing l with
  | nil => simp [ascB]
  | cons a ns ih =>
    simp only [ascB, Bool.and_eq_true, decide_eq_true_eq, ih, List.pairwise_cons, List.mem_cons]
    constructor
    · rintro ⟨⟨h1, h2⟩, h3, h4⟩
      refine ⟨?_, fun z hz => (h3 z hz).1, h4⟩
      rintro z (rfl | hz)
      · exact ⟨h1, h2⟩
      · have := h3 z hz
        omega
    · rintro ⟨h1, h2, h3⟩
      exact ⟨h1 a (.inl rfl), fun z hz => ⟨h2 z hz, (h1 z (.inr hz)).2⟩, h3⟩
/-- parted: two new lists in a new list -/
theorem run_split (L : LibL p) {n r m : Nat} {ns : List Int} (h : Draws M n r) (hm : M[m]? = some (.lst (ns.map D.int))) (hmn : m ≠ n) (ha : ascB 0 ns = true) (hsz : ns.length ≤ 1000) :
    ∃ (live ret : List Int) (A : Mem), run p (k + 2) 9 [.obj n, .obj m] M = .ok (.obj (M.length + 2)) (A ++ [.lst (live.map D.int), .lst (ret.map D.int), .lst [.obj M.length, .obj (M.length + 1)]]) ∧
      ascB 0 live = true ∧ ascB 0 ret = true ∧ live.any ret.contains = false ∧ live.length + ret.length = ns.length ∧ Draws A n r ∧ Adv n M A := by
  have hs := sizeL
  have hml := lt_of_get hm
  obtain ⟨ha1, ha2⟩ := asc_iff.mp ha
  suffices w : OkS (evSs ⟨run p (k + 1), p.gl⟩ f9_law_split.body (envOf [.obj n, .obj m] (f9_law_split.nn - f9_law_split.np)) M) (fnEnd fun d M' => ∃ (live ret : List Int) (A : Mem), d = .obj (M.length + 2) ∧ M' = A ++ [.lst (live.map D.int), .lst (ret.map D.int), .lst [.obj M.length, .obj (M.length + 1)]] ∧
      ascB 0 live = true ∧ ascB 0 ret = true ∧ live.any ret.contains = false ∧ live.length + ret.length = ns.length ∧ Draws A n r ∧ Adv n M A) by
    obtain ⟨d, M', ⟨live, ret, A, rfl, rfl, h1, h2, h3, h4, h5, h6⟩, e⟩ := run_raw L.h9 rfl w
    have et := tidyD_out (M := M) (k := M.length + 2) (o := .lst [.obj M.length, .obj (M.length + 1)]) (by omega) (ga2 (x := .lst (live.map D.int)) (y := .lst (ret.map D.int)) (l := []) h6.len) (show (decide (M.length < M.length) && (decide (M.length + 1 < M.length) && true)) = false by simp)
    rw [et] at e
    exact ⟨live, ret, A, e, h1, h2, h3, h4, h5, h6⟩
  unfold f9_law_split
  have g0 : (M ++ [MO.lst [], MO.lst []])[m]? = some (.lst (ns.map D.int)) := by
    rw [List.getElem?_append_left hml]; exact hm
  simp only [List.length_map, List.length_cons, List.length_nil, List.length_append, Y0, Y1, Y2, Y3, Y4, Y5, Y6, Y7, Y8, Y9, Y10, Y11, List.getElem?_cons_zero, List.getElem?_cons_succ, Option.bind_some, Option.map_some, id_eq, List.set_cons_zero, List.set_cons_succ, Bool.not_true, Bool.not_false, decide_true, decide_false, Nat.zero_le, Nat.zero_add, Int.toNat_zero, Int.toNat_one, Nat.reduceSub, Nat.reduceAdd, Nat.reduceLeDiff, Int.reduceEq, Int.reduceLT, Int.reduceLE, Int.reduceNeg, Int.reduceAdd, Int.reduceSub, Int.reduceToNat, g0]
  apply OkS.seq
  refine live_seq (xs := ns.map D.int) (fun ds env M' => ∃ (rest live ret : List Int) (x : Option D) (A : Mem), ds = rest.map D.int ∧ env = [some (.obj n), some (.obj m), some (.obj M.length), some (.obj (M.length + 1)), x] ∧
      M' = A ++ [.lst (live.map D.int), .lst (ret.map D.int)] ∧ Draws A n r ∧ Adv n M A ∧ (live ++ rest).Pairwise (· < ·) ∧ (ret ++ rest).Pairwise (· < ·) ∧ (∀ z ∈ live, z ∉ ret) ∧ (∀ z ∈ live ++ rest, 0 < z ∧ z ≤ 99) ∧ (∀ z ∈ ret, 0 < z ∧ z ≤ 99) ∧ live.length + ret.length + rest.length = ns.length)
    ⟨ns, [], [], none, M, rfl, rfl, rfl, h, Adv.refl, ha2, ha2, by simp, ha1, by simp, by simp⟩ g0 ?_ ?_
  · rintro d ds env M1 ⟨rest, live, ret, x, A, e, rfl, rfl, hd, hk, p1, p2, p3, p4, p5, p6⟩ hx
    cases rest with
    | nil => cases e
    | cons y rest =>
      cases e
      unfold xBody
      obtain ⟨c, A2, e, hc0, hc1, hd2, hk2⟩ := run_next (k := k) L.toLib0 hd (show (0 : Int) < 5 by decide) [.lst (live.map D.int), .lst (ret.map D.int)]
      have hlen := (hk.trans hk2).len
      simp only [List.length_cons] at p6
      have hx2 : ∀ B : Mem, (A2 ++ B)[m]? = some (.lst (ns.map D.int)) := fun B => by
        rw [List.getElem?_append_left (by rw [hlen]; exact hml)]
        exact (hk.trans hk2).get hm hmn
      have q1 : (live ++ [y] ++ rest).Pairwise (· < ·) := by simpa using p1
      have q2 : (ret ++ [y] ++ rest).Pairwise (· < ·) := by simpa using p2
      have q3 : (live ++ rest).Pairwise (· < ·) := by
        refine p1.sublist ?_
        exact List.Sublist.append (List.Sublist.refl _) (List.sublist_cons_self _ _)
      have q4 : (ret ++ rest).Pairwise (· < ·) := by
        refine p2.sublist ?_
        exact List.Sublist.append (List.Sublist.refl _) (List.sublist_cons_self _ _)
      have hy := p4 y (by simp)
      have y1 : ∀ z ∈ live, z < y := fun z hz => (List.pairwise_append.mp p1).2.2 z hz y (by simp)
      have y2 : ∀ z ∈ ret, z < y := fun z hz => (List.pairwise_append.mp p2).2.2 z hz y (by simp)
      by_cases h1 : c = 1
      · simp only [List.length_map, List.length_cons, List.length_nil, List.length_append, Y0, Y1, Y2, Y3, Y4, Y5, Y6, Y7, Y8, Y9, Y10, Y11, List.getElem?_cons_zero, List.getElem?_cons_succ, Option.bind_some, Option.map_some, id_eq, List.set_cons_zero, List.set_cons_succ, Bool.not_true, Bool.not_false, decide_true, decide_false, Nat.zero_le, Nat.zero_add, Int.toNat_zero, Int.toNat_one, Nat.reduceSub, Nat.reduceAdd, Nat.reduceLeDiff, Int.reduceEq, Int.reduceLT, Int.reduceLE, Int.reduceNeg, Int.reduceAdd, Int.reduceSub, Int.reduceToNat, e, h1, hlen, show ret.length < sizeLine by omega, map_snoc]
        refine ⟨⟨rest, live, ret ++ [y], _, A2, rfl, rfl, rfl, hd2, hk.trans hk2, q3, q2, ?_, ?_, ?_, by simp; omega⟩, hx2 _⟩
        · intro z hz hz2
          rcases List.mem_append.mp hz2 with hz2 | hz2
          · exact p3 z hz hz2
          · have : z = y := by simpa using hz2
            have := y1 z hz
            omega
        · intro z hz
          refine p4 z ?_
          rcases List.mem_append.mp hz with hz | hz
          · exact List.mem_append_left _ hz
          · exact List.mem_append_right _ (List.mem_cons_of_mem _ hz)
        · intro z hz
          rcases List.mem_append.mp hz with hz | hz
          · exact p5 z hz
          · have : z = y := by simpa using hz
            subst this
            exact hy
      · simp only [List.length_map, List.length_cons, List.length_nil, List.length_append, Y0, Y1, Y2, Y3, Y4, Y5, Y6, Y7, Y8, Y9, Y10, Y11, List.getElem?_cons_zero, List.getElem?_cons_succ, Option.bind_some, Option.map_some, id_eq, List.set_cons_zero, List.set_cons_succ, Bool.not_true, Bool.not_false, decide_true, decide_false, Nat.zero_le, Nat.zero_add, Int.toNat_zero, Int.toNat_one, Nat.reduceSub, Nat.reduceAdd, Nat.reduceLeDiff, Int.reduceEq, Int.reduceLT, Int.reduceLE, Int.reduceNeg, Int.reduceAdd, Int.reduceSub, Int.reduceToNat, e, h1, hlen, show live.length < sizeLine by omega, map_snoc]
        refine ⟨⟨rest, live ++ [y], ret, _, A2, rfl, rfl, rfl, hd2, hk.trans hk2, q1, q4, ?_, ?_, p5, by simp; omega⟩, hx2 _⟩
        · intro z hz hz2
          rcases List.mem_append.mp hz with hz | hz
          · exact p3 z hz hz2
          · have : z = y := by simpa using hz
            have := y2 z hz2
            omega
        · intro z hz
          refine p4 z ?_
          simpa using hz
  · rintro env M1 ⟨rest, live, ret, x, A, e, rfl, rfl, hd, hk, p1, p2, p3, p4, p5, p6⟩ hx
    cases rest with
    | cons => cases e
    | nil =>
      have hlen := hk.len
      simp only [List.length_map, List.length_cons, List.length_nil, List.length_append, Y0, Y1, Y2, Y3, Y4, Y5, Y6, Y7, Y8, Y9, Y10, Y11, List.getElem?_cons_zero, List.getElem?_cons_succ, Option.bind_some, Option.map_some, id_eq, List.set_cons_zero, List.set_cons_succ, Bool.not_true, Bool.not_false, decide_true, decide_false, Nat.zero_le, Nat.zero_add, Int.toNat_zero, Int.toNat_one, Nat.reduceSub, Nat.reduceAdd, Nat.reduceLeDiff, Int.reduceEq, Int.reduceLT, Int.reduceLE, Int.reduceNeg, Int.reduceAdd, Int.reduceSub, Int.reduceToNat, hlen]
      refine ⟨live, ret, A, rfl, rfl, asc_iff.mpr ⟨by simpa using p4, by simpa using p1⟩, asc_iff.mpr ⟨p5, by simpa using p2⟩, ?_, by simpa using p6, hd, hk⟩
      rw [List.any_eq_false]
      intro z hz hz2
      exact p3 z hz (by simpa using hz2)
theorem Leaf.bel {n : Nat} (l : Leaf) : bel n l.d = true := by
  cases l with
  | num lo hi => rfl
  | txt lo hi => rfl
  | cho live ret op =>
    show (true && (bels n (live.map D.int) && (bels n (ret.map D.int) && (true && true)))) = true
    rw [bels_int, bels_int]; rfl
theorem run_leafS (L : LibL p) {n r : Nat} (h : Draws M n r) : Ok (run p (k + 3) 10 [.obj n] M) (DrawnF M n r fun d => ∃ l : Leaf, d = l.d ∧ l.ok = true ∧ l.sz ≤ 6) := by
  refine run_drawn L.h10 rfl h (fun d ⟨l, e, _⟩ => by subst e; exact l.bel) ?_
  unfold f10_law_leaf
  obtain ⟨c, M1, e1, c0, c1, hd1, hk1⟩ := run_next0 (k := k + 1) L.toLib0 h (show (0 : Int) < 8 by decide)
  have hpow : opBin .pow (.int 10) (.int 15) = fun M => some (.int 1000000000000000, M) := by
    funext M
    rw [o_pow (by decide)]
    rfl
  by_cases h4 : c < 4
  · obtain ⟨lo, M2, e2, lo0, lo1, hd2, hk2⟩ := run_next0 (k := k + 1) L.toLib0 hd1 (show (0 : Int) < 12 by decide)
    obtain ⟨hi, M3, e3, hi0, hi1, hd3, hk3⟩ := run_next0 (k := k + 1) L.toLib0 hd2 (show (0 : Int) < 9 by decide)
    obtain ⟨y, M4, e4, y0, y1, hd4, hk4⟩ := run_next0 (k := k + 1) L.toLib0 hd3 (show (0 : Int) < 9 by decide)
    have K4 := hk1.trans (hk2.trans (hk3.trans hk4))
    by_cases hy : y = 1
    · simp only [List.length_map, List.length_cons, List.length_nil, List.length_append, Y0, Y1, Y2, Y3, Y4, Y5, Y6, Y7, Y8, Y9, Y10, Y11, List.getElem?_cons_zero, List.getElem?_cons_succ, Option.bind_some, Option.map_some, id_eq, List.set_cons_zero, List.set_cons_succ, Bool.not_true, Bool.not_false, decide_true, decide_false, Nat.zero_le, Nat.zero_add, Int.toNat_zero, Int.toNat_one, Nat.reduceSub, Nat.reduceAdd, Nat.reduceLeDiff, Int.reduceEq, Int.reduceLT, Int.reduceLE, Int.reduceNeg, Int.reduceAdd, Int.reduceSub, Int.reduceToNat, e1, h4, e2, e3, e4, hy, hpow]
      exact ⟨M4, [], ma_nil'.symm, ⟨.num (-1000000000000000) 1000000000000000, rfl, by decide, by decide⟩, hd4, K4⟩
    · simp only [List.length_map, List.length_cons, List.length_nil, List.length_append, Y0, Y1, Y2, Y3, Y4, Y5, Y6, Y7, Y8, Y9, Y10, Y11, List.getElem?_cons_zero, List.getElem?_cons_succ, Option.bind_some, Option.map_some, id_eq, List.set_cons_zero, List.set_cons_succ, Bool.not_true, Bool.not_false, decide_true, decide_false, Nat.zero_le, Nat.zero_add, Int.toNat_zero, Int.toNat_one, Nat.reduceSub, Nat.reduceAdd, Nat.reduceLeDiff, Int.reduceEq, Int.reduceLT, Int.reduceLE, Int.reduceNeg, Int.reduceAdd, Int.reduceSub, Int.reduceToNat, e1, h4, e2, e3, e4, hy]
      refine ⟨M4, [], ma_nil'.symm, ⟨.num (lo - 6) (lo - 6 + hi), rfl, ?_, Nat.zero_le _⟩, hd4, K4⟩
      simp only [Leaf.ok, Bool.and_eq_true, decide_eq_true_eq]
      omega
  · by_cases h6 : c < 6
    · obtain ⟨lo, M2, e2, lo0, lo1, hd2, hk2⟩ := run_next0 (k := k + 1) L.toLib0 hd1 (show (0 : Int) < 3 by decide)
      obtain ⟨hi, M3, e3, hi0, hi1, hd3, hk3⟩ := run_next0 (k := k + 1) L.toLib0 hd2 (show (0 : Int) < 4 by decide)
      obtain ⟨y, M4, e4, y0, y1, hd4, hk4⟩ := run_next0 (k := k + 1) L.toLib0 hd3 (show (0 : Int) < 9 by decide)
      have K4 := hk1.trans (hk2.trans (hk3.trans hk4))
      by_cases hy : y = 1
      · simp only [List.length_map, List.length_cons, List.length_nil, List.length_append, Y0, Y1, Y2, Y3, Y4, Y5, Y6, Y7, Y8, Y9, Y10, Y11, List.getElem?_cons_zero, List.getElem?_cons_succ, Option.bind_some, Option.map_some, id_eq, List.set_cons_zero, List.set_cons_succ, Bool.not_true, Bool.not_false, decide_true, decide_false, Nat.zero_le, Nat.zero_add, Int.toNat_zero, Int.toNat_one, Nat.reduceSub, Nat.reduceAdd, Nat.reduceLeDiff, Int.reduceEq, Int.reduceLT, Int.reduceLE, Int.reduceNeg, Int.reduceAdd, Int.reduceSub, Int.reduceToNat, e1, h4, h6, e2, e3, e4, hy]
        refine ⟨M4, [], ma_nil'.symm, ⟨.txt lo 40, rfl, ?_, Nat.zero_le _⟩, hd4, K4⟩
        simp only [Leaf.ok, Bool.and_eq_true, decide_eq_true_eq]
        omega
      · simp only [List.length_map, List.length_cons, List.length_nil, List.length_append, Y0, Y1, Y2, Y3, Y4, Y5, Y6, Y7, Y8, Y9, Y10, Y11, List.getElem?_cons_zero, List.getElem?_cons_succ, Option.bind_some, Option.map_some, id_eq, List.set_cons_zero, List.set_cons_succ, Bool.not_true, Bool.not_false, decide_true, decide_false, Nat.zero_le, Nat.zero_add, Int.toNat_zero, Int.toNat_one, Nat.reduceSub, Nat.reduceAdd, Nat.reduceLeDiff, Int.reduceEq, Int.reduceLT, Int.reduceLE, Int.reduceNeg, Int.reduceAdd, Int.reduceSub, Int.reduceToNat, e1, h4, h6, e2, e3, e4, hy]
        refine ⟨M4, [], ma_nil'.symm, ⟨.txt lo (lo + hi), rfl, ?_, Nat.zero_le _⟩, hd4, K4⟩
        simp only [Leaf.ok, Bool.and_eq_true, decide_eq_true_eq]
        omega
    · obtain ⟨ns, M2, e2, ha, hl, hd2, hk2⟩ := run_ids (k := k) L hd1 (most := 4) (by decide)
      have hn := h.lt
      have l1 := hk1.len
      have l2 := hk2.len
      obtain ⟨live, ret, A3, e3, al, ar, dj, sz, hd3, hk3⟩ := run_split (k := k) L (hd2.app [.lst (ns.map D.int)]) (ga0 l2) (by omega) ha (by omega)
      obtain ⟨M3, rfl, hd3, hk3⟩ := adv_app hd2 hd3 hk3
      have l3 := hk3.len
      simp only [ma_assoc, ma_cons, ma_nil, ma_len, ma_lcons, ma_lnil, l2, l1, Nat.zero_add] at e3
      obtain ⟨y, M4, e4, y0, y1, hd4, hk4⟩ := run_next (k := k + 1) L.toLib0 hd3 (show (0 : Int) < 2 by decide) [.lst (ns.map D.int), .lst (live.map D.int), .lst (ret.map D.int), .lst [.obj (M.length + 1), .obj (M.length + 1 + 1)]]
      have K4 := hk1.trans (hk2.trans (hk3.trans hk4))
      have l4 := K4.len
      have l3' := (hk1.trans (hk2.trans hk3)).len
      have fin : ∀ op : Bool, (op || (decide (ret = []) && decide (live ≠ []))) = true → (Leaf.cho live ret op).ok = true := fun op ho => by
        show okIds live ret op = true
        unfold okIds
        rw [al, ar, dj, ho]; rfl
      have e2' : run p (k + 2) 8 [.obj n, .int 4] M1 = .ok (.obj M.length) (M2 ++ [.lst (ns.map D.int)]) := by rw [← l1]; exact e2
      have hsz : live.length + ret.length ≤ 6 := by omega
      by_cases hy : y = 1
      · simp only [List.length_map, List.length_cons, List.length_nil, List.length_append, Y0, Y1, Y2, Y3, Y4, Y5, Y6, Y7, Y8, Y9, Y10, Y11, List.getElem?_cons_zero, List.getElem?_cons_succ, Option.bind_some, Option.map_some, id_eq, List.set_cons_zero, List.set_cons_succ, Bool.not_true, Bool.not_false, decide_true, decide_false, Nat.zero_le, Nat.zero_add, Int.toNat_zero, Int.toNat_one, Nat.reduceSub, Nat.reduceAdd, Nat.reduceLeDiff, Int.reduceEq, Int.reduceLT, Int.reduceLE, Int.reduceNeg, Int.reduceAdd, Int.reduceSub, Int.reduceToNat, e1, h4, h6, e2', e3, e4, hy, l4, l3']
        exact ⟨M4, _, rfl, ⟨.cho live ret true, rfl, fin true rfl, hsz⟩, hd4, K4⟩
      · by_cases hr : (0 : Int) < (ret.length : Int)
        · simp only [List.length_map, List.length_cons, List.length_nil, List.length_append, Y0, Y1, Y2, Y3, Y4, Y5, Y6, Y7, Y8, Y9, Y10, Y11, List.getElem?_cons_zero, List.getElem?_cons_succ, Option.bind_some, Option.map_some, id_eq, List.set_cons_zero, List.set_cons_succ, Bool.not_true, Bool.not_false, decide_true, decide_false, Nat.zero_le, Nat.zero_add, Int.toNat_zero, Int.toNat_one, Nat.reduceSub, Nat.reduceAdd, Nat.reduceLeDiff, Int.reduceEq, Int.reduceLT, Int.reduceLE, Int.reduceNeg, Int.reduceAdd, Int.reduceSub, Int.reduceToNat, e1, h4, h6, e2', e3, e4, hy, l4, l3', hr]
          exact ⟨M4, _, rfl, ⟨.cho live ret true, rfl, fin true rfl, hsz⟩, hd4, K4⟩
        · have hr0 : ret = [] := by
            cases ret with
            | nil => rfl
            | cons z l => exact absurd (by simp only [List.length_cons]; omega) hr
          simp only [List.length_map, List.length_cons, List.length_nil, List.length_append, Y0, Y1, Y2, Y3, Y4, Y5, Y6, Y7, Y8, Y9, Y10, Y11, List.getElem?_cons_zero, List.getElem?_cons_succ, Option.bind_some, Option.map_some, id_eq, List.set_cons_zero, List.set_cons_succ, Bool.not_true, Bool.not_false, decide_true, decide_false, Nat.zero_le, Nat.zero_add, Int.toNat_zero, Int.toNat_one, Nat.reduceSub, Nat.reduceAdd, Nat.reduceLeDiff, Int.reduceEq, Int.reduceLT, Int.reduceLE, Int.reduceNeg, Int.reduceAdd, Int.reduceSub, Int.reduceToNat, e1, h4, h6, e2', e3, e4, hy, l4, l3', hr]
          refine ⟨M4, _, rfl, ⟨.cho live ret _, rfl, fin _ ?_, hsz⟩, hd4, K4⟩
          subst hr0
          cases live with
          | nil => rfl
          | cons z l => simp
theorem run_leaf (L : LibL p) {n r : Nat} (h : Draws M n r) : Ok (run p (k + 3) 10 [.obj n] M) (DrawnF M n r fun d => ∃ l : Leaf, d = l.d ∧ l.ok = true) :=
  (run_leafS L h).imp fun _ _ ⟨⟨l, a, b, _⟩, c, d⟩ => ⟨⟨l, a, b⟩, c, d⟩
end
end Py

set_option Elab.async false
set_option autoImplicit false
set_option linter.all false
set_option maxRecDepth 100000
set_option maxHeartbeats 4000000
/-! P6: values of leaves. -/
namespace Py
open PySem L2
structure LibW (p : Prog) : Prop extends LibL p where
  h7 : p.fn 7 = some f7_law_char
  h504 : p.fn 504 = some f504_law_leaf_value
/-- the program's own look at a leaf's value -/
structure LibU (p : Prog) : Prop where
  h0 : p.fn 0 = some f0_is_allowed_code
  h1 : p.fn 1 = some f1_is_text
  h2 : p.fn 2 = some f2_is_leaf_value
  g1 : p.gl 1 = some (.int 37)
/-- the law's -/
structure LibX (p : Prog) : Prop where
  h14 : p.fn 14 = some f14_law_is_text
  h15 : p.fn 15 = some f15_law_is_leaf_value
def okC (c : Nat) : Bool := decide (32 ≤ c) && decide (c ≤ 126) && decide (c ≠ 37)
def leafV : Leaf → D → Bool
  | .txt lo hi, .str s => s.all okC && (decide (lo ≤ (s.length : Int)) && decide ((s.length : Int) ≤ hi))
  | .num lo hi, .int z => decide (lo ≤ z) && decide (z ≤ hi)
  | .cho live _ op, .int z => live.contains z || (decide (z = 0) && op)
  | _, _ => false
theorem leafV_txt {lo hi : Int} {s : List Nat} : leafV (.txt lo hi) (.str s) = (s.all okC && (decide (lo ≤ (s.length : Int)) && decide ((s.length : Int) ≤ hi))) := rfl
theorem leafV_num {lo hi z : Int} : leafV (.num lo hi) (.int z) = (decide (lo ≤ z) && decide (z ≤ hi)) := rfl
theorem leafV_cho {live ret : List Int} {op : Bool} {z : Int} : leafV (.cho live ret op) (.int z) = (live.contains z || (decide (z = 0) && op)) := rfl
/-- what a value may be -/
inductive SV : D → Prop
  | int (z : Int) : SV (.int z)
  | str (s : List Nat) (h : s.length ≤ 1000) : SV (.str s)
  | non : SV .non
  | tup (xs : List D) : SV (.tup xs)
section
variable {p : Prog} {k : Nat} {M : Mem}
theorem le1000 {n : Nat} (h : n ≤ 1000) : n ≤ sizeLine := by
  have : sizeLine = 16777216 := rfl
  omega
theorem run_allowed (U : LibU p) (c : Nat) : run p (k + 1) 0 [.int c] M = .ok (.bl (okC c)) M := by
  refine run_eq U.h0 rfl ?_
  unfold f0_is_allowed_code okC
  by_cases h1 : 32 ≤ c
  · have h1' : (32 : Int) ≤ (c : Int) := by omega
    by_cases h2 : c ≤ 126
    · have h2' : (c : Int) ≤ 126 := by omega
      by_cases h3 : c = 37
      · have h3' : (c : Int) = 37 := by omega
        simp only [List.length_map, List.length_cons, List.length_nil, List.length_append, Y0, Y1, Y2, Y3, Y4, Y5, Y6, Y7, Y8, Y9, Y10, Y11, List.getElem?_cons_zero, List.getElem?_cons_succ, Option.bind_some, Option.map_some, id_eq, List.set_cons_zero, List.set_cons_succ, Bool.not_true, Bool.not_false, decide_true, decide_false, Nat.zero_le, Nat.zero_add, Int.toNat_zero, Int.toNat_one, Nat.reduceSub, Nat.reduceAdd, Nat.reduceLeDiff, Int.reduceEq, Int.reduceLT, Int.reduceLE, Int.reduceNeg, Int.reduceAdd, Int.reduceSub, Int.reduceToNat, h1', h2', U.g1, h3']
        subst h3
        exact ⟨rfl, rfl⟩
      · have h3' : ¬ (c : Int) = 37 := by omega
        simp only [List.length_map, List.length_cons, List.length_nil, List.length_append, Y0, Y1, Y2, Y3, Y4, Y5, Y6, Y7, Y8, Y9, Y10, Y11, List.getElem?_cons_zero, List.getElem?_cons_succ, Option.bind_some, Option.map_some, id_eq, List.set_cons_zero, List.set_cons_succ, Bool.not_true, Bool.not_false, decide_true, decide_false, Nat.zero_le, Nat.zero_add, Int.toNat_zero, Int.toNat_one, Nat.reduceSub, Nat.reduceAdd, Nat.reduceLeDiff, Int.reduceEq, Int.reduceLT, Int.reduceLE, Int.reduceNeg, Int.reduceAdd, Int.reduceSub, Int.reduceToNat, h1', h2', U.g1, h3']
        exact ⟨by simp [h1, h2, h3], rfl⟩
    · have h2' : ¬ (c : Int) ≤ 126 := by omega
      simp only [List.length_map, List.length_cons, List.length_nil, List.length_append, Y0, Y1, Y2, Y3, Y4, Y5, Y6, Y7, Y8, Y9, Y10, Y11, List.getElem?_cons_zero, List.getElem?_cons_succ, Option.bind_some, Option.map_some, id_eq, List.set_cons_zero, List.set_cons_succ, Bool.not_true, Bool.not_false, decide_true, decide_false, Nat.zero_le, Nat.zero_add, Int.toNat_zero, Int.toNat_one, Nat.reduceSub, Nat.reduceAdd, Nat.reduceLeDiff, Int.reduceEq, Int.reduceLT, Int.reduceLE, Int.reduceNeg, Int.reduceAdd, Int.reduceSub, Int.reduceToNat, h1', h2']
      exact ⟨by simp [h1, h2], rfl⟩
  · have h1' : ¬ (32 : Int) ≤ (c : Int) := by omega
    simp only [List.length_map, List.length_cons, List.length_nil, List.length_append, Y0, Y1, Y2, Y3, Y4, Y5, Y6, Y7, Y8, Y9, Y10, Y11, List.getElem?_cons_zero, List.getElem?_cons_succ, Option.bind_some, Option.map_some, id_eq, List.set_cons_zero, List.set_cons_succ, Bool.not_true, Bool.not_false, decide_true, decide_false, Nat.zero_le, Nat.zero_add, Int.toNat_zero, Int.toNat_one, Nat.reduceSub, Nat.reduceAdd, Nat.reduceLeDiff, Int.reduceEq, Int.reduceLT, Int.reduceLE, Int.reduceNeg, Int.reduceAdd, Int.reduceSub, Int.reduceToNat, h1']
    exact ⟨by simp [h1], rfl⟩
theorem run_is_text (U : LibU p) {v : D} (hv : SV v) : run p (k + 2) 1 [v] M = .ok (.bl (match v with | .str s => s.all okC | _ => false)) M := by
  refine run_eq U.h1 rfl ?_
  unfold f1_is_text
  cases hv with
  | int z => simp only [List.length_map, List.length_cons, List.length_nil, List.length_append, Y0, Y1, Y2, Y3, Y4, Y5, Y6, Y7, Y8, Y9, Y10, Y11, List.getElem?_cons_zero, List.getElem?_cons_succ, Option.bind_some, Option.map_some, id_eq, List.set_cons_zero, List.set_cons_succ, Bool.not_true, Bool.not_false, decide_true, decide_false, Nat.zero_le, Nat.zero_add, Int.toNat_zero, Int.toNat_one, Nat.reduceSub, Nat.reduceAdd, Nat.reduceLeDiff, Int.reduceEq, Int.reduceLT, Int.reduceLE, Int.reduceNeg, Int.reduceAdd, Int.reduceSub, Int.reduceToNat]; exact ⟨rfl, rfl⟩
  | non => simp only [List.length_map, List.length_cons, List.length_nil, List.length_append, Y0, Y1, Y2, Y3, Y4, Y5, Y6, Y7, Y8, Y9, Y10, Y11, List.getElem?_cons_zero, List.getElem?_cons_succ, Option.bind_some, Option.map_some, id_eq, List.set_cons_zero, List.set_cons_succ, Bool.not_true, Bool.not_false, decide_true, decide_false, Nat.zero_le, Nat.zero_add, Int.toNat_zero, Int.toNat_one, Nat.reduceSub, Nat.reduceAdd, Nat.reduceLeDiff, Int.reduceEq, Int.reduceLT, Int.reduceLE, Int.reduceNeg, Int.reduceAdd, Int.reduceSub, Int.reduceToNat]; exact ⟨rfl, rfl⟩
  | tup xs => simp only [List.length_map, List.length_cons, List.length_nil, List.length_append, Y0, Y1, Y2, Y3, Y4, Y5, Y6, Y7, Y8, Y9, Y10, Y11, List.getElem?_cons_zero, List.getElem?_cons_succ, Option.bind_some, Option.map_some, id_eq, List.set_cons_zero, List.set_cons_succ, Bool.not_true, Bool.not_false, decide_true, decide_false, Nat.zero_le, Nat.zero_add, Int.toNat_zero, Int.toNat_one, Nat.reduceSub, Nat.reduceAdd, Nat.reduceLeDiff, Int.reduceEq, Int.reduceLT, Int.reduceLE, Int.reduceNeg, Int.reduceAdd, Int.reduceSub, Int.reduceToNat]; exact ⟨rfl, rfl⟩
  | str s hs =>
    simp only [List.length_map, List.length_cons, List.length_nil, List.length_append, Y0, Y1, Y2, Y3, Y4, Y5, Y6, Y7, Y8, Y9, Y10, Y11, List.getElem?_cons_zero, List.getElem?_cons_succ, Option.bind_some, Option.map_some, id_eq, List.set_cons_zero, List.set_cons_succ, Bool.not_true, Bool.not_false, decide_true, decide_false, Nat.zero_le, Nat.zero_add, Int.toNat_zero, Int.toNat_one, Nat.reduceSub, Nat.reduceAdd, Nat.reduceLeDiff, Int.reduceEq, Int.reduceLT, Int.reduceLE, Int.reduceNeg, Int.reduceAdd, Int.reduceSub, Int.reduceToNat]
    refine seq_ok (fun env M' => M' = M ∧ s.all okC = true) (for_inv (fun ds env M' => ∃ (r : List Nat) (x : Option D), ds = r.map (fun c => D.str [c]) ∧ env = [some (.str s), x] ∧ M' = M ∧ r.all okC = s.all okC) ⟨s, none, rfl, rfl, rfl, rfl⟩ ?_ ?_) ?_
    · rintro d ds env M' ⟨r, x, e, rfl, rfl, h⟩
      cases r with
      | nil => cases e
      | cons c r =>
        cases e
        unfold xBody
        rw [List.all_cons] at h
        cases hc : okC c with
        | true =>
          simp only [List.length_map, List.length_cons, List.length_nil, List.length_append, Y0, Y1, Y2, Y3, Y4, Y5, Y6, Y7, Y8, Y9, Y10, Y11, List.getElem?_cons_zero, List.getElem?_cons_succ, Option.bind_some, Option.map_some, id_eq, List.set_cons_zero, List.set_cons_succ, Bool.not_true, Bool.not_false, decide_true, decide_false, Nat.zero_le, Nat.zero_add, Int.toNat_zero, Int.toNat_one, Nat.reduceSub, Nat.reduceAdd, Nat.reduceLeDiff, Int.reduceEq, Int.reduceLT, Int.reduceLE, Int.reduceNeg, Int.reduceAdd, Int.reduceSub, Int.reduceToNat, run_allowed U, hc]
          exact ⟨r, _, rfl, rfl, rfl, by rw [← h, hc]; rfl⟩
        | false =>
          simp only [List.length_map, List.length_cons, List.length_nil, List.length_append, Y0, Y1, Y2, Y3, Y4, Y5, Y6, Y7, Y8, Y9, Y10, Y11, List.getElem?_cons_zero, List.getElem?_cons_succ, Option.bind_some, Option.map_some, id_eq, List.set_cons_zero, List.set_cons_succ, Bool.not_true, Bool.not_false, decide_true, decide_false, Nat.zero_le, Nat.zero_add, Int.toNat_zero, Int.toNat_one, Nat.reduceSub, Nat.reduceAdd, Nat.reduceLeDiff, Int.reduceEq, Int.reduceLT, Int.reduceLE, Int.reduceNeg, Int.reduceAdd, Int.reduceSub, Int.reduceToNat, run_allowed U, hc]
          exact ⟨by rw [← h, hc]; rfl, rfl⟩
    · rintro env M' ⟨r, x, e, rfl, rfl, h⟩
      cases r with
      | cons => cases e
      | nil => exact ⟨rfl, h.symm⟩
    · rintro env M' ⟨rfl, h⟩
      simp only [List.length_map, List.length_cons, List.length_nil, List.length_append, Y0, Y1, Y2, Y3, Y4, Y5, Y6, Y7, Y8, Y9, Y10, Y11, List.getElem?_cons_zero, List.getElem?_cons_succ, Option.bind_some, Option.map_some, id_eq, List.set_cons_zero, List.set_cons_succ, Bool.not_true, Bool.not_false, decide_true, decide_false, Nat.zero_le, Nat.zero_add, Int.toNat_zero, Int.toNat_one, Nat.reduceSub, Nat.reduceAdd, Nat.reduceLeDiff, Int.reduceEq, Int.reduceLT, Int.reduceLE, Int.reduceNeg, Int.reduceAdd, Int.reduceSub, Int.reduceToNat]
      exact ⟨by rw [h], rfl⟩
theorem run_is_leaf_value (U : LibU p) (l : Leaf) {v : D} (hv : SV v) : run p (k + 3) 2 [l.d, v] M = .ok (.bl (leafV l v)) M := by
  refine run_eq U.h2 rfl ?_
  unfold f2_is_leaf_value
  cases l with
  | txt lo hi =>
    unfold Leaf.d
    cases hv with
    | str s hs =>
      have ht := run_is_text (k := k) (M := M) U (SV.str s hs)
      simp only at ht
      cases hc : s.all okC with
      | false =>
        rw [hc] at ht
        simp only [List.length_map, List.length_cons, List.length_nil, List.length_append, Y0, Y1, Y2, Y3, Y4, Y5, Y6, Y7, Y8, Y9, Y10, Y11, List.getElem?_cons_zero, List.getElem?_cons_succ, Option.bind_some, Option.map_some, id_eq, List.set_cons_zero, List.set_cons_succ, Bool.not_true, Bool.not_false, decide_true, decide_false, Nat.zero_le, Nat.zero_add, Int.toNat_zero, Int.toNat_one, Nat.reduceSub, Nat.reduceAdd, Nat.reduceLeDiff, Int.reduceEq, Int.reduceLT, Int.reduceLE, Int.reduceNeg, Int.reduceAdd, Int.reduceSub, Int.reduceToNat, ht, show (sText == sText) = true from rfl]
        exact ⟨by rw [leafV_txt, hc]; rfl, rfl⟩
      | true =>
        rw [hc] at ht
        by_cases h1 : lo ≤ (s.length : Int)
        · simp only [List.length_map, List.length_cons, List.length_nil, List.length_append, Y0, Y1, Y2, Y3, Y4, Y5, Y6, Y7, Y8, Y9, Y10, Y11, List.getElem?_cons_zero, List.getElem?_cons_succ, Option.bind_some, Option.map_some, id_eq, List.set_cons_zero, List.set_cons_succ, Bool.not_true, Bool.not_false, decide_true, decide_false, Nat.zero_le, Nat.zero_add, Int.toNat_zero, Int.toNat_one, Nat.reduceSub, Nat.reduceAdd, Nat.reduceLeDiff, Int.reduceEq, Int.reduceLT, Int.reduceLE, Int.reduceNeg, Int.reduceAdd, Int.reduceSub, Int.reduceToNat, ht, show (sText == sText) = true from rfl, b_lenS (le1000 hs), h1]
          exact ⟨by rw [leafV_txt, hc, decide_eq_true h1]; rfl, rfl⟩
        · simp only [List.length_map, List.length_cons, List.length_nil, List.length_append, Y0, Y1, Y2, Y3, Y4, Y5, Y6, Y7, Y8, Y9, Y10, Y11, List.getElem?_cons_zero, List.getElem?_cons_succ, Option.bind_some, Option.map_some, id_eq, List.set_cons_zero, List.set_cons_succ, Bool.not_true, Bool.not_false, decide_true, decide_false, Nat.zero_le, Nat.zero_add, Int.toNat_zero, Int.toNat_one, Nat.reduceSub, Nat.reduceAdd, Nat.reduceLeDiff, Int.reduceEq, Int.reduceLT, Int.reduceLE, Int.reduceNeg, Int.reduceAdd, Int.reduceSub, Int.reduceToNat, ht, show (sText == sText) = true from rfl, b_lenS (le1000 hs), h1]
          exact ⟨by rw [leafV_txt, hc, decide_eq_false h1]; rfl, rfl⟩
    | int z => 
      simp only [List.length_map, List.length_cons, List.length_nil, List.length_append, Y0, Y1, Y2, Y3, Y4, Y5, Y6, Y7, Y8, Y9, Y10, Y11, List.getElem?_cons_zero, List.getElem?_cons_succ, Option.bind_some, Option.map_some, id_eq, List.set_cons_zero, List.set_cons_succ, Bool.not_true, Bool.not_false, decide_true, decide_false, Nat.zero_le, Nat.zero_add, Int.toNat_zero, Int.toNat_one, Nat.reduceSub, Nat.reduceAdd, Nat.reduceLeDiff, Int.reduceEq, Int.reduceLT, Int.reduceLE, Int.reduceNeg, Int.reduceAdd, Int.reduceSub, Int.reduceToNat, run_is_text U (SV.int z), show (sText == sText) = true from rfl]
      exact ⟨rfl, rfl⟩
    | non => 
      simp only [List.length_map, List.length_cons, List.length_nil, List.length_append, Y0, Y1, Y2, Y3, Y4, Y5, Y6, Y7, Y8, Y9, Y10, Y11, List.getElem?_cons_zero, List.getElem?_cons_succ, Option.bind_some, Option.map_some, id_eq, List.set_cons_zero, List.set_cons_succ, Bool.not_true, Bool.not_false, decide_true, decide_false, Nat.zero_le, Nat.zero_add, Int.toNat_zero, Int.toNat_one, Nat.reduceSub, Nat.reduceAdd, Nat.reduceLeDiff, Int.reduceEq, Int.reduceLT, Int.reduceLE, Int.reduceNeg, Int.reduceAdd, Int.reduceSub, Int.reduceToNat, run_is_text U SV.non, show (sText == sText) = true from rfl]
      exact ⟨rfl, rfl⟩
    | tup xs => 
      simp only [List.length_map, List.length_cons, List.length_nil, List.length_append, Y0, Y1, Y2, Y3, Y4, Y5, Y6, Y7, Y8, Y9, Y10, Y11, List.getElem?_cons_zero, List.getElem?_cons_succ, Option.bind_some, Option.map_some, id_eq, List.set_cons_zero, List.set_cons_succ, Bool.not_true, Bool.not_false, decide_true, decide_false, Nat.zero_le, Nat.zero_add, Int.toNat_zero, Int.toNat_one, Nat.reduceSub, Nat.reduceAdd, Nat.reduceLeDiff, Int.reduceEq, Int.reduceLT, Int.reduceLE, Int.reduceNeg, Int.reduceAdd, Int.reduceSub, Int.reduceToNat, run_is_text U (SV.tup xs), show (sText == sText) = true from rfl]
      exact ⟨rfl, rfl⟩
  | num lo hi =>
    unfold Leaf.d
    cases hv with
    | str s hs => simp only [List.length_map, List.length_cons, List.length_nil, List.length_append, Y0, Y1, Y2, Y3, Y4, Y5, Y6, Y7, Y8, Y9, Y10, Y11, List.getElem?_cons_zero, List.getElem?_cons_succ, Option.bind_some, Option.map_some, id_eq, List.set_cons_zero, List.set_cons_succ, Bool.not_true, Bool.not_false, decide_true, decide_false, Nat.zero_le, Nat.zero_add, Int.toNat_zero, Int.toNat_one, Nat.reduceSub, Nat.reduceAdd, Nat.reduceLeDiff, Int.reduceEq, Int.reduceLT, Int.reduceLE, Int.reduceNeg, Int.reduceAdd, Int.reduceSub, Int.reduceToNat, show (sNumber == sText) = false from rfl]; exact ⟨rfl, rfl⟩
    | non => simp only [List.length_map, List.length_cons, List.length_nil, List.length_append, Y0, Y1, Y2, Y3, Y4, Y5, Y6, Y7, Y8, Y9, Y10, Y11, List.getElem?_cons_zero, List.getElem?_cons_succ, Option.bind_some, Option.map_some, id_eq, List.set_cons_zero, List.set_cons_succ, Bool.not_true, Bool.not_false, decide_true, decide_false, Nat.zero_le, Nat.zero_add, Int.toNat_zero, Int.toNat_one, Nat.reduceSub, Nat.reduceAdd, Nat.reduceLeDiff, Int.reduceEq, Int.reduceLT, Int.reduceLE, Int.reduceNeg, Int.reduceAdd, Int.reduceSub, Int.reduceToNat, show (sNumber == sText) = false from rfl]; exact ⟨rfl, rfl⟩
    | tup xs => simp only [List.length_map, List.length_cons, List.length_nil, List.length_append, Y0, Y1, Y2, Y3, Y4, Y5, Y6, Y7, Y8, Y9, Y10, Y11, List.getElem?_cons_zero, List.getElem?_cons_succ, Option.bind_some, Option.map_some, id_eq, List.set_cons_zero, List.set_cons_succ, Bool.not_true, Bool.not_false, decide_true, decide_false, Nat.zero_le, Nat.zero_add, Int.toNat_zero, Int.toNat_one, Nat.reduceSub, Nat.reduceAdd, Nat.reduceLeDiff, Int.reduceEq, Int.reduceLT, Int.reduceLE, Int.reduceNeg, Int.reduceAdd, Int.reduceSub, Int.reduceToNat, show (sNumber == sText) = false from rfl]; exact ⟨rfl, rfl⟩
    | int z =>
      by_cases h1 : lo ≤ z
      · simp only [List.length_map, List.length_cons, List.length_nil, List.length_append, Y0, Y1, Y2, Y3, Y4, Y5, Y6, Y7, Y8, Y9, Y10, Y11, List.getElem?_cons_zero, List.getElem?_cons_succ, Option.bind_some, Option.map_some, id_eq, List.set_cons_zero, List.set_cons_succ, Bool.not_true, Bool.not_false, decide_true, decide_false, Nat.zero_le, Nat.zero_add, Int.toNat_zero, Int.toNat_one, Nat.reduceSub, Nat.reduceAdd, Nat.reduceLeDiff, Int.reduceEq, Int.reduceLT, Int.reduceLE, Int.reduceNeg, Int.reduceAdd, Int.reduceSub, Int.reduceToNat, show (sNumber == sText) = false from rfl, show (sNumber == sNumber) = true from rfl, h1]
        exact ⟨by rw [leafV_num, decide_eq_true h1]; rfl, rfl⟩
      · simp only [List.length_map, List.length_cons, List.length_nil, List.length_append, Y0, Y1, Y2, Y3, Y4, Y5, Y6, Y7, Y8, Y9, Y10, Y11, List.getElem?_cons_zero, List.getElem?_cons_succ, Option.bind_some, Option.map_some, id_eq, List.set_cons_zero, List.set_cons_succ, Bool.not_true, Bool.not_false, decide_true, decide_false, Nat.zero_le, Nat.zero_add, Int.toNat_zero, Int.toNat_one, Nat.reduceSub, Nat.reduceAdd, Nat.reduceLeDiff, Int.reduceEq, Int.reduceLT, Int.reduceLE, Int.reduceNeg, Int.reduceAdd, Int.reduceSub, Int.reduceToNat, show (sNumber == sText) = false from rfl, show (sNumber == sNumber) = true from rfl, h1]
        exact ⟨by rw [leafV_num, decide_eq_false h1]; rfl, rfl⟩
  | cho live ret op =>
    unfold Leaf.d
    cases hv with
    | str s hs => simp only [List.length_map, List.length_cons, List.length_nil, List.length_append, Y0, Y1, Y2, Y3, Y4, Y5, Y6, Y7, Y8, Y9, Y10, Y11, List.getElem?_cons_zero, List.getElem?_cons_succ, Option.bind_some, Option.map_some, id_eq, List.set_cons_zero, List.set_cons_succ, Bool.not_true, Bool.not_false, decide_true, decide_false, Nat.zero_le, Nat.zero_add, Int.toNat_zero, Int.toNat_one, Nat.reduceSub, Nat.reduceAdd, Nat.reduceLeDiff, Int.reduceEq, Int.reduceLT, Int.reduceLE, Int.reduceNeg, Int.reduceAdd, Int.reduceSub, Int.reduceToNat, show (sChoice == sText) = false from rfl]; exact ⟨rfl, rfl⟩
    | non => simp only [List.length_map, List.length_cons, List.length_nil, List.length_append, Y0, Y1, Y2, Y3, Y4, Y5, Y6, Y7, Y8, Y9, Y10, Y11, List.getElem?_cons_zero, List.getElem?_cons_succ, Option.bind_some, Option.map_some, id_eq, List.set_cons_zero, List.set_cons_succ, Bool.not_true, Bool.not_false, decide_true, decide_false, Nat.zero_le, Nat.zero_add, Int.toNat_zero, Int.toNat_one, Nat.reduceSub, Nat.reduceAdd, Nat.reduceLeDiff, Int.reduceEq, Int.reduceLT, Int.reduceLE, Int.reduceNeg, Int.reduceAdd, Int.reduceSub, Int.reduceToNat, show (sChoice == sText) = false from rfl]; exact ⟨rfl, rfl⟩
    | tup xs => simp only [List.length_map, List.length_cons, List.length_nil, List.length_append, Y0, Y1, Y2, Y3, Y4, Y5, Y6, Y7, Y8, Y9, Y10, Y11, List.getElem?_cons_zero, List.getElem?_cons_succ, Option.bind_some, Option.map_some, id_eq, List.set_cons_zero, List.set_cons_succ, Bool.not_true, Bool.not_false, decide_true, decide_false, Nat.zero_le, Nat.zero_add, Int.toNat_zero, Int.toNat_one, Nat.reduceSub, Nat.reduceAdd, Nat.reduceLeDiff, Int.reduceEq, Int.reduceLT, Int.reduceLE, Int.reduceNeg, Int.reduceAdd, Int.reduceSub, Int.reduceToNat, show (sChoice == sText) = false from rfl]; exact ⟨rfl, rfl⟩
    | int z =>
      cases h1 : live.contains z with
      | true =>
        simp only [List.length_map, List.length_cons, List.length_nil, List.length_append, Y0, Y1, Y2, Y3, Y4, Y5, Y6, Y7, Y8, Y9, Y10, Y11, List.getElem?_cons_zero, List.getElem?_cons_succ, Option.bind_some, Option.map_some, id_eq, List.set_cons_zero, List.set_cons_succ, Bool.not_true, Bool.not_false, decide_true, decide_false, Nat.zero_le, Nat.zero_add, Int.toNat_zero, Int.toNat_one, Nat.reduceSub, Nat.reduceAdd, Nat.reduceLeDiff, Int.reduceEq, Int.reduceLT, Int.reduceLE, Int.reduceNeg, Int.reduceAdd, Int.reduceSub, Int.reduceToNat, show (sChoice == sText) = false from rfl, show (sChoice == sNumber) = false from rfl, in_ints, h1]
        exact ⟨by rw [leafV_cho, h1]; rfl, rfl⟩
      | false =>
        by_cases h2 : z = 0
        · simp only [List.length_map, List.length_cons, List.length_nil, List.length_append, Y0, Y1, Y2, Y3, Y4, Y5, Y6, Y7, Y8, Y9, Y10, Y11, List.getElem?_cons_zero, List.getElem?_cons_succ, Option.bind_some, Option.map_some, id_eq, List.set_cons_zero, List.set_cons_succ, Bool.not_true, Bool.not_false, decide_true, decide_false, Nat.zero_le, Nat.zero_add, Int.toNat_zero, Int.toNat_one, Nat.reduceSub, Nat.reduceAdd, Nat.reduceLeDiff, Int.reduceEq, Int.reduceLT, Int.reduceLE, Int.reduceNeg, Int.reduceAdd, Int.reduceSub, Int.reduceToNat, show (sChoice == sText) = false from rfl, show (sChoice == sNumber) = false from rfl, in_ints, h1, decide_eq_true h2]
          exact ⟨by rw [leafV_cho, h1, decide_eq_true h2]; rfl, rfl⟩
        · simp only [List.length_map, List.length_cons, List.length_nil, List.length_append, Y0, Y1, Y2, Y3, Y4, Y5, Y6, Y7, Y8, Y9, Y10, Y11, List.getElem?_cons_zero, List.getElem?_cons_succ, Option.bind_some, Option.map_some, id_eq, List.set_cons_zero, List.set_cons_succ, Bool.not_true, Bool.not_false, decide_true, decide_false, Nat.zero_le, Nat.zero_add, Int.toNat_zero, Int.toNat_one, Nat.reduceSub, Nat.reduceAdd, Nat.reduceLeDiff, Int.reduceEq, Int.reduceLT, Int.reduceLE, Int.reduceNeg, Int.reduceAdd, Int.reduceSub, Int.reduceToNat, show (sChoice == sText) = false from rfl, show (sChoice == sNumber) = false from rfl, in_ints, h1, decide_eq_false h2]
          exact ⟨by rw [leafV_cho, h1, decide_eq_false h2]; rfl, rfl⟩
theorem run_law_is_text (X : LibX p) {v : D} (hv : SV v) : run p (k + 1) 14 [v] M = .ok (.bl (match v with | .str s => s.all okC | _ => false)) M := by
  refine run_eq X.h14 rfl ?_
  unfold f14_law_is_text
  cases hv with
  | int z => simp only [List.length_map, List.length_cons, List.length_nil, List.length_append, Y0, Y1, Y2, Y3, Y4, Y5, Y6, Y7, Y8, Y9, Y10, Y11, List.getElem?_cons_zero, List.getElem?_cons_succ, Option.bind_some, Option.map_some, id_eq, List.set_cons_zero, List.set_cons_succ, Bool.not_true, Bool.not_false, decide_true, decide_false, Nat.zero_le, Nat.zero_add, Int.toNat_zero, Int.toNat_one, Nat.reduceSub, Nat.reduceAdd, Nat.reduceLeDiff, Int.reduceEq, Int.reduceLT, Int.reduceLE, Int.reduceNeg, Int.reduceAdd, Int.reduceSub, Int.reduceToNat]; exact ⟨rfl, rfl⟩
  | non => simp only [List.length_map, List.length_cons, List.length_nil, List.length_append, Y0, Y1, Y2, Y3, Y4, Y5, Y6, Y7, Y8, Y9, Y10, Y11, List.getElem?_cons_zero, List.getElem?_cons_succ, Option.bind_some, Option.map_some, id_eq, List.set_cons_zero, List.set_cons_succ, Bool.not_true, Bool.not_false, decide_true, decide_false, Nat.zero_le, Nat.zero_add, Int.toNat_zero, Int.toNat_one, Nat.reduceSub, Nat.reduceAdd, Nat.reduceLeDiff, Int.reduceEq, Int.reduceLT, Int.reduceLE, Int.reduceNeg, Int.reduceAdd, Int.reduceSub, Int.reduceToNat]; exact ⟨rfl, rfl⟩
  | tup xs => simp only [List.length_map, List.length_cons, List.length_nil, List.length_append, Y0, Y1, Y2, Y3, Y4, Y5, Y6, Y7, Y8, Y9, Y10, Y11, List.getElem?_cons_zero, List.getElem?_cons_succ, Option.bind_some, Option.map_some, id_eq, List.set_cons_zero, List.set_cons_succ, Bool.not_true, Bool.not_false, decide_true, decide_false, Nat.zero_le, Nat.zero_add, Int.toNat_zero, Int.toNat_one, Nat.reduceSub, Nat.reduceAdd, Nat.reduceLeDiff, Int.reduceEq, Int.reduceLT, Int.reduceLE, Int.reduceNeg, Int.reduceAdd, Int.reduceSub, Int.reduceToNat]; exact ⟨rfl, rfl⟩
  | str s hs =>
    simp only [List.length_map, List.length_cons, List.length_nil, List.length_append, Y0, Y1, Y2, Y3, Y4, Y5, Y6, Y7, Y8, Y9, Y10, Y11, List.getElem?_cons_zero, List.getElem?_cons_succ, Option.bind_some, Option.map_some, id_eq, List.set_cons_zero, List.set_cons_succ, Bool.not_true, Bool.not_false, decide_true, decide_false, Nat.zero_le, Nat.zero_add, Int.toNat_zero, Int.toNat_one, Nat.reduceSub, Nat.reduceAdd, Nat.reduceLeDiff, Int.reduceEq, Int.reduceLT, Int.reduceLE, Int.reduceNeg, Int.reduceAdd, Int.reduceSub, Int.reduceToNat]
    refine seq_ok (fun env M' => M' = M ∧ s.all okC = true) (for_inv (fun ds env M' => ∃ (r : List Nat) (x : Option D), ds = r.map (fun c => D.str [c]) ∧ env = [some (.str s), x] ∧ M' = M ∧ r.all okC = s.all okC) ⟨s, none, rfl, rfl, rfl, rfl⟩ ?_ ?_) ?_
    · rintro d ds env M' ⟨r, x, e, rfl, rfl, h⟩
      cases r with
      | nil => cases e
      | cons c r =>
        cases e
        unfold xBody
        rw [List.all_cons] at h
        by_cases h1 : c < 32
        · have h1' : (c : Int) < 32 := by omega
          simp only [List.length_map, List.length_cons, List.length_nil, List.length_append, Y0, Y1, Y2, Y3, Y4, Y5, Y6, Y7, Y8, Y9, Y10, Y11, List.getElem?_cons_zero, List.getElem?_cons_succ, Option.bind_some, Option.map_some, id_eq, List.set_cons_zero, List.set_cons_succ, Bool.not_true, Bool.not_false, decide_true, decide_false, Nat.zero_le, Nat.zero_add, Int.toNat_zero, Int.toNat_one, Nat.reduceSub, Nat.reduceAdd, Nat.reduceLeDiff, Int.reduceEq, Int.reduceLT, Int.reduceLE, Int.reduceNeg, Int.reduceAdd, Int.reduceSub, Int.reduceToNat, h1']
          exact ⟨by rw [← h]; simp [okC]; omega, rfl⟩
        · have h1' : ¬ (c : Int) < 32 := by omega
          by_cases h2 : 126 < c
          · have h2' : (126 : Int) < (c : Int) := by omega
            simp only [List.length_map, List.length_cons, List.length_nil, List.length_append, Y0, Y1, Y2, Y3, Y4, Y5, Y6, Y7, Y8, Y9, Y10, Y11, List.getElem?_cons_zero, List.getElem?_cons_succ, Option.bind_some, Option.map_some, id_eq, List.set_cons_zero, List.set_cons_succ, Bool.not_true, Bool.not_false, decide_true, decide_false, Nat.zero_le, Nat.zero_add, Int.toNat_zero, Int.toNat_one, Nat.reduceSub, Nat.reduceAdd, Nat.reduceLeDiff, Int.reduceEq, Int.reduceLT, Int.reduceLE, Int.reduceNeg, Int.reduceAdd, Int.reduceSub, Int.reduceToNat, h1', h2']
            exact ⟨by rw [← h]; simp [okC]; omega, rfl⟩
          · have h2' : ¬ (126 : Int) < (c : Int) := by omega
            by_cases h3 : c = 37
            · have h3' : (c : Int) = 37 := by omega
              simp only [List.length_map, List.length_cons, List.length_nil, List.length_append, Y0, Y1, Y2, Y3, Y4, Y5, Y6, Y7, Y8, Y9, Y10, Y11, List.getElem?_cons_zero, List.getElem?_cons_succ, Option.bind_some, Option.map_some, id_eq, List.set_cons_zero, List.set_cons_succ, Bool.not_true, Bool.not_false, decide_true, decide_false, Nat.zero_le, Nat.zero_add, Int.toNat_zero, Int.toNat_one, Nat.reduceSub, Nat.reduceAdd, Nat.reduceLeDiff, Int.reduceEq, Int.reduceLT, Int.reduceLE, Int.reduceNeg, Int.reduceAdd, Int.reduceSub, Int.reduceToNat, h1', h2', h3']
              subst h3
              exact ⟨by rw [← h]; rfl, rfl⟩
            · have h3' : ¬ (c : Int) = 37 := by omega
              simp only [List.length_map, List.length_cons, List.length_nil, List.length_append, Y0, Y1, Y2, Y3, Y4, Y5, Y6, Y7, Y8, Y9, Y10, Y11, List.getElem?_cons_zero, List.getElem?_cons_succ, Option.bind_some, Option.map_some, id_eq, List.set_cons_zero, List.set_cons_succ, Bool.not_true, Bool.not_false, decide_true, decide_false, Nat.zero_le, Nat.zero_add, Int.toNat_zero, Int.toNat_one, Nat.reduceSub, Nat.reduceAdd, Nat.reduceLeDiff, Int.reduceEq, Int.reduceLT, Int.reduceLE, Int.reduceNeg, Int.reduceAdd, Int.reduceSub, Int.reduceToNat, h1', h2', h3']
              refine ⟨r, _, rfl, rfl, rfl, ?_⟩
              rw [← h]
              have : okC c = true := by simp [okC]; omega
              rw [this]; rfl
    · rintro env M' ⟨r, x, e, rfl, rfl, h⟩
      cases r with
      | cons => cases e
      | nil => exact ⟨rfl, h.symm⟩
    · rintro env M' ⟨rfl, h⟩
      simp only [List.length_map, List.length_cons, List.length_nil, List.length_append, Y0, Y1, Y2, Y3, Y4, Y5, Y6, Y7, Y8, Y9, Y10, Y11, List.getElem?_cons_zero, List.getElem?_cons_succ, Option.bind_some, Option.map_some, id_eq, List.set_cons_zero, List.set_cons_succ, Bool.not_true, Bool.not_false, decide_true, decide_false, Nat.zero_le, Nat.zero_add, Int.toNat_zero, Int.toNat_one, Nat.reduceSub, Nat.reduceAdd, Nat.reduceLeDiff, Int.reduceEq, Int.reduceLT, Int.reduceLE, Int.reduceNeg, Int.reduceAdd, Int.reduceSub, Int.reduceToNat]
      exact ⟨by rw [h], rfl⟩
theorem run_law_is_leaf_value (X : LibX p) (l : Leaf) {v : D} (hv : SV v) : run p (k + 2) 15 [l.d, v] M = .ok (.bl (leafV l v)) M := by
  refine run_eq X.h15 rfl ?_
  unfold f15_law_is_leaf_value
  cases l with
  | txt lo hi =>
    unfold Leaf.d
    cases hv with
    | str s hs =>
      have ht := run_law_is_text (k := k) (M := M) X (SV.str s hs)
      simp only at ht
      cases hc : s.all okC with
      | false =>
        rw [hc] at ht
        simp only [List.length_map, List.length_cons, List.length_nil, List.length_append, Y0, Y1, Y2, Y3, Y4, Y5, Y6, Y7, Y8, Y9, Y10, Y11, List.getElem?_cons_zero, List.getElem?_cons_succ, Option.bind_some, Option.map_some, id_eq, List.set_cons_zero, List.set_cons_succ, Bool.not_true, Bool.not_false, decide_true, decide_false, Nat.zero_le, Nat.zero_add, Int.toNat_zero, Int.toNat_one, Nat.reduceSub, Nat.reduceAdd, Nat.reduceLeDiff, Int.reduceEq, Int.reduceLT, Int.reduceLE, Int.reduceNeg, Int.reduceAdd, Int.reduceSub, Int.reduceToNat, ht, show (sText == sText) = true from rfl]
        exact ⟨by rw [leafV_txt, hc]; rfl, rfl⟩
      | true =>
        rw [hc] at ht
        by_cases h1 : lo ≤ (s.length : Int)
        · simp only [List.length_map, List.length_cons, List.length_nil, List.length_append, Y0, Y1, Y2, Y3, Y4, Y5, Y6, Y7, Y8, Y9, Y10, Y11, List.getElem?_cons_zero, List.getElem?_cons_succ, Option.bind_some, Option.map_some, id_eq, List.set_cons_zero, List.set_cons_succ, Bool.not_true, Bool.not_false, decide_true, decide_false, Nat.zero_le, Nat.zero_add, Int.toNat_zero, Int.toNat_one, Nat.reduceSub, Nat.reduceAdd, Nat.reduceLeDiff, Int.reduceEq, Int.reduceLT, Int.reduceLE, Int.reduceNeg, Int.reduceAdd, Int.reduceSub, Int.reduceToNat, ht, show (sText == sText) = true from rfl, b_lenS (le1000 hs), h1]
          exact ⟨by rw [leafV_txt, hc, decide_eq_true h1]; rfl, rfl⟩
        · simp only [List.length_map, List.length_cons, List.length_nil, List.length_append, Y0, Y1, Y2, Y3, Y4, Y5, Y6, Y7, Y8, Y9, Y10, Y11, List.getElem?_cons_zero, List.getElem?_cons_succ, Option.bind_some, Option.map_some, id_eq, List.set_cons_zero, List.set_cons_succ, Bool.not_true, Bool.not_false, decide_true, decide_false, Nat.zero_le, Nat.zero_add, Int.toNat_zero, Int.toNat_one, Nat.reduceSub, Nat.reduceAdd, Nat.reduceLeDiff, Int.reduceEq, Int.reduceLT, Int.reduceLE, Int.reduceNeg, Int.reduceAdd, Int.reduceSub, Int.reduceToNat, ht, show (sText == sText) = true from rfl, b_lenS (le1000 hs), h1]
          exact ⟨by rw [leafV_txt, hc, decide_eq_false h1]; rfl, rfl⟩
    | int z => 
      simp only [List.length_map, List.length_cons, List.length_nil, List.length_append, Y0, Y1, Y2, Y3, Y4, Y5, Y6, Y7, Y8, Y9, Y10, Y11, List.getElem?_cons_zero, List.getElem?_cons_succ, Option.bind_some, Option.map_some, id_eq, List.set_cons_zero, List.set_cons_succ, Bool.not_true, Bool.not_false, decide_true, decide_false, Nat.zero_le, Nat.zero_add, Int.toNat_zero, Int.toNat_one, Nat.reduceSub, Nat.reduceAdd, Nat.reduceLeDiff, Int.reduceEq, Int.reduceLT, Int.reduceLE, Int.reduceNeg, Int.reduceAdd, Int.reduceSub, Int.reduceToNat, run_law_is_text X (SV.int z), show (sText == sText) = true from rfl]
      exact ⟨rfl, rfl⟩
    | non => 
      simp only [List.length_map, List.length_cons, List.length_nil, List.length_append, Y0, Y1, Y2, Y3, Y4, Y5, Y6, Y7, Y8, Y9, Y10, Y11, List.getElem?_cons_zero, List.getElem?_cons_succ, Option.bind_some, Option.map_some, id_eq, List.set_cons_zero, List.set_cons_succ, Bool.not_true, Bool.not_false, decide_true, decide_false, Nat.zero_le, Nat.zero_add, Int.toNat_zero, Int.toNat_one, Nat.reduceSub, Nat.reduceAdd, Nat.reduceLeDiff, Int.reduceEq, Int.reduceLT, Int.reduceLE, Int.reduceNeg, Int.reduceAdd, Int.reduceSub, Int.reduceToNat, run_law_is_text X SV.non, show (sText == sText) = true from rfl]
      exact ⟨rfl, rfl⟩
    | tup xs => 
      simp only [List.length_map, List.length_cons, List.length_nil, List.length_append, Y0, Y1, Y2, Y3, Y4, Y5, Y6, Y7, Y8, Y9, Y10, Y11, List.getElem?_cons_zero, List.getElem?_cons_succ, Option.bind_some, Option.map_some, id_eq, List.set_cons_zero, List.set_cons_succ, Bool.not_true, Bool.not_false, decide_true, decide_false, Nat.zero_le, Nat.zero_add, Int.toNat_zero, Int.toNat_one, Nat.reduceSub, Nat.reduceAdd, Nat.reduceLeDiff, Int.reduceEq, Int.reduceLT, Int.reduceLE, Int.reduceNeg, Int.reduceAdd, Int.reduceSub, Int.reduceToNat, run_law_is_text X (SV.tup xs), show (sText == sText) = true from rfl]
      exact ⟨rfl, rfl⟩
  | num lo hi =>
    unfold Leaf.d
    cases hv with
    | str s hs => simp only [List.length_map, List.length_cons, List.length_nil, List.length_append, Y0, Y1, Y2, Y3, Y4, Y5, Y6, Y7, Y8, Y9, Y10, Y11, List.getElem?_cons_zero, List.getElem?_cons_succ, Option.bind_some, Option.map_some, id_eq, List.set_cons_zero, List.set_cons_succ, Bool.not_true, Bool.not_false, decide_true, decide_false, Nat.zero_le, Nat.zero_add, Int.toNat_zero, Int.toNat_one, Nat.reduceSub, Nat.reduceAdd, Nat.reduceLeDiff, Int.reduceEq, Int.reduceLT, Int.reduceLE, Int.reduceNeg, Int.reduceAdd, Int.reduceSub, Int.reduceToNat, show (sNumber == sText) = false from rfl]; exact ⟨rfl, rfl⟩
    | non => simp only [List.length_map, List.length_cons, List.length_nil, List.length_append, Y0, Y1, Y2, Y3, Y4, Y5, Y6, Y7, Y8, Y9, Y10, Y11, List.getElem?_cons_zero, List.getElem?_cons_succ, Option.bind_some, Option.map_some, id_eq, List.set_cons_zero, List.set_cons_succ, Bool.not_true, Bool.not_false, decide_true, decide_false, Nat.zero_le, Nat.zero_add, Int.toNat_zero, Int.toNat_one, Nat.reduceSub, Nat.reduceAdd, Nat.reduceLeDiff, Int.reduceEq, Int.reduceLT, Int.reduceLE, Int.reduceNeg, Int.reduceAdd, Int.reduceSub, Int.reduceToNat, show (sNumber == sText) = false from rfl]; exact ⟨rfl, rfl⟩
    | tup xs => simp only [List.length_map, List.length_cons, List.length_nil, List.length_append, Y0, Y1, Y2, Y3, Y4, Y5, Y6, Y7, Y8, Y9, Y10, Y11, List.getElem?_cons_zero, List.getElem?_cons_succ, Option.bind_some, Option.map_some, id_eq, List.set_cons_zero, List.set_cons_succ, Bool.not_true, Bool.not_false, decide_true, decide_false, Nat.zero_le, Nat.zero_add, Int.toNat_zero, Int.toNat_one, Nat.reduceSub, Nat.reduceAdd, Nat.reduceLeDiff, Int.reduceEq, Int.reduceLT, Int.reduceLE, Int.reduceNeg, Int.reduceAdd, Int.reduceSub, Int.reduceToNat, show (sNumber == sText) = false from rfl]; exact ⟨rfl, rfl⟩
    | int z =>
      by_cases h1 : lo ≤ z
      · simp only [List.length_map, List.length_cons, List.length_nil, List.length_append, Y0, Y1, Y2, Y3, Y4, Y5, Y6, Y7, Y8, Y9, Y10, Y11, List.getElem?_cons_zero, List.getElem?_cons_succ, Option.bind_some, Option.map_some, id_eq, List.set_cons_zero, List.set_cons_succ, Bool.not_true, Bool.not_false, decide_true, decide_false, Nat.zero_le, Nat.zero_add, Int.toNat_zero, Int.toNat_one, Nat.reduceSub, Nat.reduceAdd, Nat.reduceLeDiff, Int.reduceEq, Int.reduceLT, Int.reduceLE, Int.reduceNeg, Int.reduceAdd, Int.reduceSub, Int.reduceToNat, show (sNumber == sText) = false from rfl, show (sNumber == sNumber) = true from rfl, h1]
        exact ⟨by rw [leafV_num, decide_eq_true h1]; rfl, rfl⟩
      · simp only [List.length_map, List.length_cons, List.length_nil, List.length_append, Y0, Y1, Y2, Y3, Y4, Y5, Y6, Y7, Y8, Y9, Y10, Y11, List.getElem?_cons_zero, List.getElem?_cons_succ, Option.bind_some, Option.map_some, id_eq, List.set_cons_zero, List.set_cons_succ, Bool.not_true, Bool.not_false, decide_true, decide_false, Nat.zero_le, Nat.zero_add, Int.toNat_zero, Int.toNat_one, Nat.reduceSub, Nat.reduceAdd, Nat.reduceLeDiff, Int.reduceEq, Int.reduceLT, Int.reduceLE, Int.reduceNeg, Int.reduceAdd, Int.reduceSub, Int.reduceToNat, show (sNumber == sText) = false from rfl, show (sNumber == sNumber) = true from rfl, h1]
        exact ⟨by rw [leafV_num, decide_eq_false h1]; rfl, rfl⟩
  | cho live ret op =>
    unfold Leaf.d
    cases hv with
    | str s hs => simp only [List.length_map, List.length_cons, List.length_nil, List.length_append, Y0, Y1, Y2, Y3, Y4, Y5, Y6, Y7, Y8, Y9, Y10, Y11, List.getElem?_cons_zero, List.getElem?_cons_succ, Option.bind_some, Option.map_some, id_eq, List.set_cons_zero, List.set_cons_succ, Bool.not_true, Bool.not_false, decide_true, decide_false, Nat.zero_le, Nat.zero_add, Int.toNat_zero, Int.toNat_one, Nat.reduceSub, Nat.reduceAdd, Nat.reduceLeDiff, Int.reduceEq, Int.reduceLT, Int.reduceLE, Int.reduceNeg, Int.reduceAdd, Int.reduceSub, Int.reduceToNat, show (sChoice == sText) = false from rfl]; exact ⟨rfl, rfl⟩
    | non => simp only [List.length_map, List.length_cons, List.length_nil, List.length_append, Y0, Y1, Y2, Y3, Y4, Y5, Y6, Y7, Y8, Y9, Y10, Y11, List.getElem?_cons_zero, List.getElem?_cons_succ, Option.bind_some, Option.map_some, id_eq, List.set_cons_zero, List.set_cons_succ, Bool.not_true, Bool.not_false, decide_true, decide_false, Nat.zero_le, Nat.zero_add, Int.toNat_zero, Int.toNat_one, Nat.reduceSub, Nat.reduceAdd, Nat.reduceLeDiff, Int.reduceEq, Int.reduceLT, Int.reduceLE, Int.reduceNeg, Int.reduceAdd, Int.reduceSub, Int.reduceToNat, show (sChoice == sText) = false from rfl]; exact ⟨rfl, rfl⟩
    | tup xs => simp only [List.length_map, List.length_cons, List.length_nil, List.length_append, Y0, Y1, Y2, Y3, Y4, Y5, Y6, Y7, Y8, Y9, Y10, Y11, List.getElem?_cons_zero, List.getElem?_cons_succ, Option.bind_some, Option.map_some, id_eq, List.set_cons_zero, List.set_cons_succ, Bool.not_true, Bool.not_false, decide_true, decide_false, Nat.zero_le, Nat.zero_add, Int.toNat_zero, Int.toNat_one, Nat.reduceSub, Nat.reduceAdd, Nat.reduceLeDiff, Int.reduceEq, Int.reduceLT, Int.reduceLE, Int.reduceNeg, Int.reduceAdd, Int.reduceSub, Int.reduceToNat, show (sChoice == sText) = false from rfl]; exact ⟨rfl, rfl⟩
    | int z =>
      cases h1 : live.contains z with
      | true =>
        simp only [List.length_map, List.length_cons, List.length_nil, List.length_append, Y0, Y1, Y2, Y3, Y4, Y5, Y6, Y7, Y8, Y9, Y10, Y11, List.getElem?_cons_zero, List.getElem?_cons_succ, Option.bind_some, Option.map_some, id_eq, List.set_cons_zero, List.set_cons_succ, Bool.not_true, Bool.not_false, decide_true, decide_false, Nat.zero_le, Nat.zero_add, Int.toNat_zero, Int.toNat_one, Nat.reduceSub, Nat.reduceAdd, Nat.reduceLeDiff, Int.reduceEq, Int.reduceLT, Int.reduceLE, Int.reduceNeg, Int.reduceAdd, Int.reduceSub, Int.reduceToNat, show (sChoice == sText) = false from rfl, show (sChoice == sNumber) = false from rfl, in_ints, h1]
        exact ⟨by rw [leafV_cho, h1]; rfl, rfl⟩
      | false =>
        by_cases h2 : z = 0
        · simp only [List.length_map, List.length_cons, List.length_nil, List.length_append, Y0, Y1, Y2, Y3, Y4, Y5, Y6, Y7, Y8, Y9, Y10, Y11, List.getElem?_cons_zero, List.getElem?_cons_succ, Option.bind_some, Option.map_some, id_eq, List.set_cons_zero, List.set_cons_succ, Bool.not_true, Bool.not_false, decide_true, decide_false, Nat.zero_le, Nat.zero_add, Int.toNat_zero, Int.toNat_one, Nat.reduceSub, Nat.reduceAdd, Nat.reduceLeDiff, Int.reduceEq, Int.reduceLT, Int.reduceLE, Int.reduceNeg, Int.reduceAdd, Int.reduceSub, Int.reduceToNat, show (sChoice == sText) = false from rfl, show (sChoice == sNumber) = false from rfl, in_ints, h1, decide_eq_true h2]
          exact ⟨by rw [leafV_cho, h1, decide_eq_true h2]; rfl, rfl⟩
        · simp only [List.length_map, List.length_cons, List.length_nil, List.length_append, Y0, Y1, Y2, Y3, Y4, Y5, Y6, Y7, Y8, Y9, Y10, Y11, List.getElem?_cons_zero, List.getElem?_cons_succ, Option.bind_some, Option.map_some, id_eq, List.set_cons_zero, List.set_cons_succ, Bool.not_true, Bool.not_false, decide_true, decide_false, Nat.zero_le, Nat.zero_add, Int.toNat_zero, Int.toNat_one, Nat.reduceSub, Nat.reduceAdd, Nat.reduceLeDiff, Int.reduceEq, Int.reduceLT, Int.reduceLE, Int.reduceNeg, Int.reduceAdd, Int.reduceSub, Int.reduceToNat, show (sChoice == sText) = false from rfl, show (sChoice == sNumber) = false from rfl, in_ints, h1, decide_eq_false h2]
          exact ⟨by rw [leafV_cho, h1, decide_eq_false h2]; rfl, rfl⟩
/-! ### values are drawn -/
theorem i_str {s : List Nat} {i : Int} (h : s.length ≤ sizeLine) : opIx (.str s) (.int i) M = (atI s i).map fun c => .str [c] := if_pos h
theorem strsOf_ch : ∀ cs : List Nat, strsOf (cs.map fun c => D.str [c]) = some (cs.map fun c => [c])
  | [] => rfl
  | c :: cs => by
    show (strsOf (cs.map fun c => D.str [c])).map ([c] :: ·) = _
    rw [strsOf_ch cs]; rfl
theorem flat_ch : ∀ cs : List Nat, (cs.map fun c => [c]).flatten = cs
  | [] => rfl
  | c :: cs => by rw [List.map_cons, List.flatten_cons, flat_ch cs]; rfl
theorem sumLen_ch : ∀ cs : List Nat, sumLen (cs.map fun c => [c]) = cs.length
  | [] => rfl
  | c :: cs => by
    show 1 + sumLen (cs.map fun c => [c]) = _
    rw [sumLen_ch cs, List.length_cons]; omega
theorem m_join {m : Nat} {cs : List Nat} (h : M[m]? = some (.lst (cs.map fun c => D.str [c]))) (hl : cs.length ≤ 1000) : opMe .join (.str []) [.obj m] M = some (.str cs, M) := by
  show (match itemsOf M (.obj m) with | some xs => (strsOf xs).bind fun ss => if sumLen ss ≤ 16777216 then some (D.str ss.flatten, M) else none | none => none) = _
  have e : itemsOf M (.obj m) = some (cs.map fun c => D.str [c]) := by
    show (match M[m]? with | some (.lst xs) => some xs | _ => none) = _
    rw [h]
  rw [e]
  show (strsOf _).bind _ = _
  rw [strsOf_ch]
  show (if sumLen (cs.map fun c => [c]) ≤ 16777216 then _ else _) = _
  rw [sumLen_ch, if_pos (by omega), flat_ch]
abbrev chars94a : List Nat := [32, 33, 34, 35, 36, 38, 39, 40, 41, 42, 43, 44, 45, 46, 47, 48, 49, 50, 51, 52, 53, 54, 55, 56, 57, 58, 59, 60, 61, 62, 63, 64, 65, 66, 67, 68, 69, 70, 71, 72, 73, 74, 75, 76, 77, 78, 79, 80, 81, 82, 83, 84, 85, 86, 87, 88, 89, 90, 91, 92, 93, 94, 95, 96]
abbrev chars94b : List Nat := [97, 98, 99, 100, 101, 102, 103, 104, 105, 106, 107, 108, 109, 110, 111, 112, 113, 114, 115, 116, 117, 118, 119, 120, 121, 122, 123, 124, 125, 126]
abbrev chars94 : List Nat := chars94a ++ chars94b
theorem chars94_ok : ∀ c ∈ chars94, okC c = true := by decide +kernel
theorem run_char (L : LibW p) (z : Int) : ∃ c : Nat, run p (k + 1) 7 [.int z] M = .ok (.str [c]) M ∧ okC c = true := by
  have h0 : 0 ≤ z % 94 := Int.emod_nonneg _ (by decide)
  have h1 : z % 94 < (chars94.length : Int) := Int.emod_lt_of_pos _ (by decide)
  have hc : (z % 94).toNat < chars94.length := by omega
  refine ⟨chars94[(z % 94).toNat], ?_, chars94_ok _ (List.getElem_mem hc)⟩
  refine run_eq L.h7 rfl ?_
  unfold f7_law_char
  simp only [List.length_map, List.length_cons, List.length_nil, List.length_append, Y0, Y1, Y2, Y3, Y4, Y5, Y6, Y7, Y8, Y9, Y10, Y11, List.getElem?_cons_zero, List.getElem?_cons_succ, Option.bind_some, Option.map_some, id_eq, List.set_cons_zero, List.set_cons_succ, Bool.not_true, Bool.not_false, decide_true, decide_false, Nat.zero_le, Nat.zero_add, Int.toNat_zero, Int.toNat_one, Nat.reduceSub, Nat.reduceAdd, Nat.reduceLeDiff, Int.reduceEq, Int.reduceLT, Int.reduceLE, Int.reduceNeg, Int.reduceAdd, Int.reduceSub, Int.reduceToNat, o_addS (M := M) (s := chars94a) (t := chars94b) (le1000 (by decide)), o_mod (show (0 : Int) < 94 by decide)]
  rw [show opIx (.str chars94) (.int (z % 94)) M = some (.str [chars94[(z % 94).toNat]]) from by
    rw [i_str (le1000 (by decide)), at_lt h0 h1, List.getElem?_eq_getElem hc]; rfl]
  simp only [List.length_map, List.length_cons, List.length_nil, List.length_append, Y0, Y1, Y2, Y3, Y4, Y5, Y6, Y7, Y8, Y9, Y10, Y11, List.getElem?_cons_zero, List.getElem?_cons_succ, Option.bind_some, Option.map_some, id_eq, List.set_cons_zero, List.set_cons_succ, Bool.not_true, Bool.not_false, decide_true, decide_false, Nat.zero_le, Nat.zero_add, Int.toNat_zero, Int.toNat_one, Nat.reduceSub, Nat.reduceAdd, Nat.reduceLeDiff, Int.reduceEq, Int.reduceLT, Int.reduceLE, Int.reduceNeg, Int.reduceAdd, Int.reduceSub, Int.reduceToNat]
  exact ⟨rfl, rfl⟩
theorem ok_num {lo hi : Int} (h : (Leaf.num lo hi).ok = true) : -1000000000000000 ≤ lo ∧ lo ≤ hi ∧ hi ≤ 1000000000000000 := by
  simp only [Leaf.ok, Bool.and_eq_true, decide_eq_true_eq] at h
  exact ⟨h.1.1, h.1.2, h.2⟩
theorem ok_txt {lo hi : Int} (h : (Leaf.txt lo hi).ok = true) : 0 ≤ lo ∧ lo ≤ hi ∧ hi ≤ 40 := by
  simp only [Leaf.ok, Bool.and_eq_true, decide_eq_true_eq] at h
  exact ⟨h.1.1, h.1.2, h.2⟩
theorem ok_cho {live ret : List Int} {op : Bool} (h : (Leaf.cho live ret op).ok = true) : ascB 0 live = true ∧ ascB 0 ret = true ∧ live.any ret.contains = false ∧ (op || (decide (ret = []) && decide (live ≠ []))) = true := by
  have h : okIds live ret op = true := h
  unfold okIds at h
  simp only [Bool.and_eq_true, Bool.not_eq_true'] at h
  exact ⟨h.1.1.1, h.1.1.2, h.1.2, h.2⟩
theorem asc_len {ns : List Int} (h : ascB 0 ns = true) : ns.length ≤ 99 := by
  have key : ∀ (ns : List Int) (l : Int), ascB l ns = true → l ≤ 99 → (ns.length : Int) ≤ 99 - l := by
    intro ns
    induction ns with
    | nil => intro l _ hl; simp; omega
    | cons a ns ih =>
      intro l h hl
      simp only [ascB, Bool.and_eq_true, decide_eq_true_eq] at h
      have := ih a h.2 h.1.2
      simp only [List.length_cons]
      omega
  have := key ns 0 h (by decide)
  omega
theorem SV.bel {d : D} (hv : SV d) (l : Leaf) (h : leafV l d = true) (n : Nat) : bel n d = true := by
  cases hv with
  | tup xs => cases l <;> cases h
  | _ => rfl
/-- a value of the leaf -/
theorem run_leaf_value (L : LibW p) {n r : Nat} (h : Draws M n r) (l : Leaf) (hl : l.ok = true) : Ok (run p (k + 3) 504 [l.d, .obj n] M) (DrawnF M n r fun d => SV d ∧ leafV l d = true) := by
  refine run_drawn L.h504 rfl h (fun d ⟨h1, h2⟩ => h1.bel l h2 _) ?_
  unfold f504_law_leaf_value
  cases l with
  | num lo hi =>
    unfold Leaf.d
    obtain ⟨q1, q2, q3⟩ := ok_num hl
    obtain ⟨c, M1, e1, c0, c1, hd1, hk1⟩ := run_next0 (k := k + 1) L.toLib0 h (show (0 : Int) < 5 by decide)
    by_cases h1 : c = 1
    · simp only [List.length_map, List.length_cons, List.length_nil, List.length_append, Y0, Y1, Y2, Y3, Y4, Y5, Y6, Y7, Y8, Y9, Y10, Y11, List.getElem?_cons_zero, List.getElem?_cons_succ, Option.bind_some, Option.map_some, id_eq, List.set_cons_zero, List.set_cons_succ, Bool.not_true, Bool.not_false, decide_true, decide_false, Nat.zero_le, Nat.zero_add, Int.toNat_zero, Int.toNat_one, Nat.reduceSub, Nat.reduceAdd, Nat.reduceLeDiff, Int.reduceEq, Int.reduceLT, Int.reduceLE, Int.reduceNeg, Int.reduceAdd, Int.reduceSub, Int.reduceToNat, show (sNumber == sNumber) = true from rfl, e1, h1]
      exact ⟨M1, [], ma_nil'.symm, ⟨.int _, by rw [leafV_num]; simp; omega⟩, hd1, hk1⟩
    · by_cases h2 : c = 2
      · simp only [List.length_map, List.length_cons, List.length_nil, List.length_append, Y0, Y1, Y2, Y3, Y4, Y5, Y6, Y7, Y8, Y9, Y10, Y11, List.getElem?_cons_zero, List.getElem?_cons_succ, Option.bind_some, Option.map_some, id_eq, List.set_cons_zero, List.set_cons_succ, Bool.not_true, Bool.not_false, decide_true, decide_false, Nat.zero_le, Nat.zero_add, Int.toNat_zero, Int.toNat_one, Nat.reduceSub, Nat.reduceAdd, Nat.reduceLeDiff, Int.reduceEq, Int.reduceLT, Int.reduceLE, Int.reduceNeg, Int.reduceAdd, Int.reduceSub, Int.reduceToNat, show (sNumber == sNumber) = true from rfl, e1, h1, h2]
        exact ⟨M1, [], ma_nil'.symm, ⟨.int _, by rw [leafV_num]; simp; omega⟩, hd1, hk1⟩
      · obtain ⟨_, M2, e2, ⟨z, rfl, hz⟩, hd2, hk2⟩ := (run_big (k := k) L.toLibL hd1).dr0
        have hp : 0 < hi - lo + 1 := by omega
        simp only [List.length_map, List.length_cons, List.length_nil, List.length_append, Y0, Y1, Y2, Y3, Y4, Y5, Y6, Y7, Y8, Y9, Y10, Y11, List.getElem?_cons_zero, List.getElem?_cons_succ, Option.bind_some, Option.map_some, id_eq, List.set_cons_zero, List.set_cons_succ, Bool.not_true, Bool.not_false, decide_true, decide_false, Nat.zero_le, Nat.zero_add, Int.toNat_zero, Int.toNat_one, Nat.reduceSub, Nat.reduceAdd, Nat.reduceLeDiff, Int.reduceEq, Int.reduceLT, Int.reduceLE, Int.reduceNeg, Int.reduceAdd, Int.reduceSub, Int.reduceToNat, show (sNumber == sNumber) = true from rfl, e1, h1, h2, e2, o_mod hp]
        have a1 := Int.emod_nonneg z (show hi - lo + 1 ≠ 0 by omega)
        have a2 := Int.emod_lt_of_pos z hp
        exact ⟨M2, [], ma_nil'.symm, ⟨.int _, by rw [leafV_num]; simp; omega⟩, hd2, hk1.trans hk2⟩
  | txt lo hi =>
    unfold Leaf.d
    obtain ⟨q1, q2, q3⟩ := ok_txt hl
    obtain ⟨c, M1, e1, c0, c1, hd1, hk1⟩ := run_next0 (k := k + 1) L.toLib0 h (show (0 : Int) < hi - lo + 1 by omega)
    have hb : big = 4611686018427387904 := rfl
    have hs : sizeLine = 16777216 := rfl
    simp only [List.length_map, List.length_cons, List.length_nil, List.length_append, Y0, Y1, Y2, Y3, Y4, Y5, Y6, Y7, Y8, Y9, Y10, Y11, List.getElem?_cons_zero, List.getElem?_cons_succ, Option.bind_some, Option.map_some, id_eq, List.set_cons_zero, List.set_cons_succ, Bool.not_true, Bool.not_false, decide_true, decide_false, Nat.zero_le, Nat.zero_add, Int.toNat_zero, Int.toNat_one, Nat.reduceSub, Nat.reduceAdd, Nat.reduceLeDiff, Int.reduceEq, Int.reduceLT, Int.reduceLE, Int.reduceNeg, Int.reduceAdd, Int.reduceSub, Int.reduceToNat, show (sText == sNumber) = false from rfl, show (sText == sText) = true from rfl, e1, if_pos (show -big ≤ lo + c ∧ lo + c < big by omega)]
    generalize hR : lcSeq _ _ _ _ = R
    obtain ⟨ys, M2, e2, hl2, ⟨cs, rfl, hsz, hall, hd2, hk2⟩⟩ : ∃ ys' A', R = .ok () (A' ++ [.lst ys']) ∧ A'.length = M1.length ∧ ∃ cs : List Nat, ys' = (cs.map fun c => D.str [c]) ∧ ((cs.length + 0 : Nat) : Int) = lo + c ∧ cs.all okC = true ∧ Draws A' n r ∧ Adv n M A' := by
      rw [← hR]
      refine lc_adv (fun ds ys A => ∃ cs : List Nat, ys = (cs.map fun c => D.str [c]) ∧ ((cs.length + ds.length : Nat) : Int) = lo + c ∧ cs.all okC = true ∧ Draws A n r ∧ Adv n M A) rfl ⟨[], rfl, by simp [rngD]; omega, rfl, hd1, hk1⟩ (by simp [rngD]; omega) ?_
      rintro d ds ys A ⟨cs, rfl, hsz, hall, hd2, hk2⟩ hA
      obtain ⟨y, A3, e3, y0, y1, hd3, hk3⟩ := run_next (k := k + 1) L.toLib0 hd2 (show (0 : Int) < 94 by decide) [.lst (cs.map fun c => D.str [c])]
      obtain ⟨c', e4, hc'⟩ := run_char (k := k + 1) (M := A3 ++ [.lst (cs.map fun c => D.str [c])]) L y
      unfold xTurn
      simp only [List.length_map, List.length_cons, List.length_nil, List.length_append, Y0, Y1, Y2, Y3, Y4, Y5, Y6, Y7, Y8, Y9, Y10, Y11, List.getElem?_cons_zero, List.getElem?_cons_succ, Option.bind_some, Option.map_some, id_eq, List.set_cons_zero, List.set_cons_succ, Bool.not_true, Bool.not_false, decide_true, decide_false, Nat.zero_le, Nat.zero_add, Int.toNat_zero, Int.toNat_one, Nat.reduceSub, Nat.reduceAdd, Nat.reduceLeDiff, Int.reduceEq, Int.reduceLT, Int.reduceLE, Int.reduceNeg, Int.reduceAdd, Int.reduceSub, Int.reduceToNat, e3, e4]
      refine ⟨_, A3, rfl, by rw [hk3.len, hA], cs ++ [c'], by simp, ?_, by simp [hall, hc'], hd3, hk2.trans hk3⟩
      simp only [List.length_append, List.length_cons, List.length_nil] at hsz ⊢
      omega
    rw [e2]
    obtain ⟨hd2', hk2'⟩ : Draws M2 n r ∧ Adv n M M2 := ⟨hd2, hk2⟩
    have hk12 : Adv n M1 M2 := ⟨hl2, fun i hi => (hk2.at_ i hi).trans (hk1.at_ i hi).symm⟩
    simp only [List.length_map, List.length_cons, List.length_nil, List.length_append, Y0, Y1, Y2, Y3, Y4, Y5, Y6, Y7, Y8, Y9, Y10, Y11, List.getElem?_cons_zero, List.getElem?_cons_succ, Option.bind_some, Option.map_some, id_eq, List.set_cons_zero, List.set_cons_succ, Bool.not_true, Bool.not_false, decide_true, decide_false, Nat.zero_le, Nat.zero_add, Int.toNat_zero, Int.toNat_one, Nat.reduceSub, Nat.reduceAdd, Nat.reduceLeDiff, Int.reduceEq, Int.reduceLT, Int.reduceLE, Int.reduceNeg, Int.reduceAdd, Int.reduceSub, Int.reduceToNat, m_join (cs := cs) (ga0 (l := []) hl2) (by omega), tidyR_adv hd1 hd2 hk12 (show bel M1.length (.str cs) = true from rfl)]
    exact ⟨M2, [], ma_nil'.symm, ⟨.str cs (by omega), by rw [leafV_txt, hall]; simp; omega⟩, hd2, hk2⟩
  | cho live ret op =>
    unfold Leaf.d
    obtain ⟨q1, q2, q3, q4⟩ := ok_cho hl
    have hlen := asc_len q1
    have hs : sizeLine = 16777216 := rfl
    cases op with
    | true =>
      obtain ⟨c, M2, e2, c0, c1, hd2, hk2⟩ := run_next (k := k + 1) L.toLib0 h (show (0 : Int) < ((live.length + 1 : Nat) : Int) by omega) [.lst ((live ++ [0]).map D.int)]
      have hc : c.toNat < (live ++ [0]).length := by simp; omega
      simp only [List.length_map, List.length_cons, List.length_nil, List.length_append, Y0, Y1, Y2, Y3, Y4, Y5, Y6, Y7, Y8, Y9, Y10, Y11, List.getElem?_cons_zero, List.getElem?_cons_succ, Option.bind_some, Option.map_some, id_eq, List.set_cons_zero, List.set_cons_succ, Bool.not_true, Bool.not_false, decide_true, decide_false, Nat.zero_le, Nat.zero_add, Int.toNat_zero, Int.toNat_one, Nat.reduceSub, Nat.reduceAdd, Nat.reduceLeDiff, Int.reduceEq, Int.reduceLT, Int.reduceLE, Int.reduceNeg, Int.reduceAdd, Int.reduceSub, Int.reduceToNat, show (sChoice == sNumber) = false from rfl, show (sChoice == sText) = false from rfl, show live.length < sizeLine by omega, show live.map D.int ++ [D.int 0] = (live ++ [0]).map D.int by simp, List.length_append, e2, hk2.len, at_lt (zs := (live ++ [0]).map D.int) c0 (by simp; omega), List.getElem?_map, List.getElem?_eq_getElem hc]
      refine ⟨M2, _, rfl, ⟨.int _, ?_⟩, hd2, hk2⟩
      rw [leafV_cho]
      have hm := List.getElem_mem hc
      rcases List.mem_append.mp hm with hm | hm
      · simp [hm]
      · have : (live ++ [0])[c.toNat] = 0 := by simpa using hm
        simp [this]
    | false =>
      have hne : live ≠ [] := by
        simp only [Bool.false_or, Bool.and_eq_true, decide_eq_true_eq] at q4
        exact q4.2
      have hpos := List.length_pos_iff.mpr hne
      obtain ⟨c, M2, e2, c0, c1, hd2, hk2⟩ := run_next (k := k + 1) L.toLib0 h (show (0 : Int) < (live.length : Int) by omega) [.lst (live.map D.int)]
      have hc : c.toNat < live.length := by omega
      simp only [List.length_map, List.length_cons, List.length_nil, List.length_append, Y0, Y1, Y2, Y3, Y4, Y5, Y6, Y7, Y8, Y9, Y10, Y11, List.getElem?_cons_zero, List.getElem?_cons_succ, Option.bind_some, Option.map_some, id_eq, List.set_cons_zero, List.set_cons_succ, Bool.not_true, Bool.not_false, decide_true, decide_false, Nat.zero_le, Nat.zero_add, Int.toNat_zero, Int.toNat_one, Nat.reduceSub, Nat.reduceAdd, Nat.reduceLeDiff, Int.reduceEq, Int.reduceLT, Int.reduceLE, Int.reduceNeg, Int.reduceAdd, Int.reduceSub, Int.reduceToNat, show (sChoice == sNumber) = false from rfl, show (sChoice == sText) = false from rfl, e2, hk2.len, at_lt (zs := live.map D.int) c0 (by simp; omega), List.getElem?_map, List.getElem?_eq_getElem hc]
      refine ⟨M2, _, rfl, ⟨.int _, ?_⟩, hd2, hk2⟩
      rw [leafV_cho]
      simp [List.getElem_mem hc]
end
end Py

set_option Elab.async false
set_option autoImplicit false
set_option linter.all false
set_option maxRecDepth 100000
set_option maxHeartbeats 4000000
/-! P9: _law_same. -/
namespace Py
open PySem L2
structure LibM (p : Prog) : Prop where
  h28 : p.fn 28 = some f28_law_same
mutual
/-- plain data: no list -/
def plainD : D → Bool
  | .tup xs => decide (xs.length ≤ 16777216) && plainDs xs
  | .rol _ => false
  | .obj _ => false
  | _ => true
def plainDs : List D → Bool
  | [] => true
  | x :: xs => plainD x && plainDs xs
end
mutual
def depD : D → Nat
  | .tup xs => depDs xs + 1
  | _ => 0
def depDs : List D → Nat
  | [] => 0
  | x :: xs => max (depD x) (depDs xs)
end
mutual
def sameD : D → D → Bool
  | a, .non => (match a with | .non => true | _ => false)
  | a, .bl c => (match a with | .bl b => b == c | _ => false)
  | a, .int j => (match a with | .int i => decide (i = j) | _ => false)
  | a, .str t => (match a with | .str s => s == t | _ => false)
  | a, .tup ys => (match a with | .tup xs => sameDs xs ys | _ => false)
  | _, _ => false
def sameDs : List D → List D → Bool
  | xs, [] => xs.isEmpty
  | xs, y :: ys => (match xs with | x :: xs => sameD x y && sameDs xs ys | [] => false)
end
theorem plainD_tup {xs : List D} (h : plainD (.tup xs) = true) : xs.length ≤ 16777216 ∧ plainDs xs = true := by
  have h : (decide (xs.length ≤ 16777216) && plainDs xs) = true := h
  rw [Bool.and_eq_true, decide_eq_true_eq] at h
  exact h
mutual
theorem sameD_refl : ∀ d : D, plainD d = true → sameD d d = true
  | .non, _ => rfl
  | .bl b, _ => by show (b == b) = true; cases b <;> rfl
  | .int i, _ => decide_eq_true rfl
  | .str s, _ => beq_self_eq_true s
  | .tup xs, h => sameDs_refl xs (plainD_tup h).2
  | .rol _, h => by cases h
  | .obj _, h => by cases h
theorem sameDs_refl : ∀ ds : List D, plainDs ds = true → sameDs ds ds = true
  | [], _ => rfl
  | d :: ds, h => by
    have h : (plainD d && plainDs ds) = true := h
    rw [Bool.and_eq_true] at h
    show (sameD d d && sameDs ds ds) = true
    rw [sameD_refl d h.1, sameDs_refl ds h.2]; rfl
end
theorem plainDs_get : ∀ {ds : List D} {i : Nat} {d : D}, plainDs ds = true → ds[i]? = some d → plainD d = true
  | d :: ds, 0, _, h, e => by
    have h : (plainD d && plainDs ds) = true := h
    rw [Bool.and_eq_true] at h
    cases e
    exact h.1
  | d :: ds, i + 1, x, h, e => by
    have h : (plainD d && plainDs ds) = true := h
    rw [Bool.and_eq_true] at h
    exact plainDs_get h.2 (by simpa using e)
theorem depDs_get : ∀ {ds : List D} {i : Nat} {d : D}, ds[i]? = some d → depD d ≤ depDs ds
  | d :: ds, 0, _, e => by
    cases e
    exact Nat.le_max_left _ _
  | d :: ds, i + 1, x, e => Nat.le_trans (depDs_get (ds := ds) (by simpa using e)) (Nat.le_max_right _ _)
theorem sameDs_drop : ∀ {xs ys : List D} {i : Nat} {x y : D}, xs[i]? = some x → ys[i]? = some y → sameDs (xs.drop i) (ys.drop i) = (sameD x y && sameDs (xs.drop (i + 1)) (ys.drop (i + 1))) := by
  intro xs ys i x y hx hy
  have h1 := (List.getElem?_eq_some_iff.mp hx)
  have h2 := (List.getElem?_eq_some_iff.mp hy)
  rw [List.drop_eq_getElem_cons h1.1, List.drop_eq_getElem_cons h2.1, h1.2, h2.2]
  rfl
theorem sameDs_len : ∀ {xs ys : List D}, xs.length ≠ ys.length → sameDs xs ys = false
  | [], [], h => absurd rfl h
  | _ :: _, [], _ => rfl
  | [], _ :: _, _ => rfl
  | x :: xs, y :: ys, h => by
    show (sameD x y && sameDs xs ys) = false
    rw [sameDs_len (by simpa using h), Bool.and_false]
section
variable {p : Prog} {k : Nat} {M : Mem}
theorem is_non {d : D} (h : plainD d = true) : opCmp .is d .non M = some (match d with | .non => true | _ => false) := by cases d <;> first | rfl | cases h
theorem isTup_of {d : D} (h : plainD d = true) : opBi .isTup [d] M = some (.bl (match d with | .tup _ => true | _ => false), M) := by cases d <;> first | rfl | cases h
theorem isBool_of {d : D} (h : plainD d = true) : opBi .isBool [d] M = some (.bl (match d with | .bl _ => true | _ => false), M) := by cases d <;> first | rfl | cases h
theorem isInt_of {d : D} (h : plainD d = true) : opBi .isInt [d] M = some (.bl (match d with | .bl _ => true | .int _ => true | _ => false), M) := by cases d <;> first | rfl | cases h
theorem isStr_of {d : D} (h : plainD d = true) : opBi .isStr [d] M = some (.bl (match d with | .str _ => true | _ => false), M) := by cases d <;> first | rfl | cases h
theorem run_same (S : LibM p) : ∀ (n : Nat) (a b : D) (M : Mem), plainD a = true → plainD b = true → depD b ≤ n → run p (k + n + 1) 28 [a, b] M = .ok (.bl (sameD a b)) M := by
  intro n
  induction n with
  | zero =>
    intro a b M ha hb hd
    refine run_eq S.h28 rfl ?_
    unfold f28_law_same
    cases b with
    | non => simp only [List.length_map, List.length_cons, List.length_nil, List.length_append, Y0, Y1, Y2, Y3, Y4, Y5, Y6, Y7, Y8, Y9, Y10, Y11, List.getElem?_cons_zero, List.getElem?_cons_succ, Option.bind_some, Option.map_some, id_eq, List.set_cons_zero, List.set_cons_succ, Bool.not_true, Bool.not_false, decide_true, decide_false, Nat.zero_le, Nat.zero_add, Int.toNat_zero, Int.toNat_one, Nat.reduceSub, Nat.reduceAdd, Nat.reduceLeDiff, Int.reduceEq, Int.reduceLT, Int.reduceLE, Int.reduceNeg, Int.reduceAdd, Int.reduceSub, Int.reduceToNat, is_non ha, is_non hb]; exact ⟨by cases a <;> rfl, rfl⟩
    | bl c =>
      simp only [List.length_map, List.length_cons, List.length_nil, List.length_append, Y0, Y1, Y2, Y3, Y4, Y5, Y6, Y7, Y8, Y9, Y10, Y11, List.getElem?_cons_zero, List.getElem?_cons_succ, Option.bind_some, Option.map_some, id_eq, List.set_cons_zero, List.set_cons_succ, Bool.not_true, Bool.not_false, decide_true, decide_false, Nat.zero_le, Nat.zero_add, Int.toNat_zero, Int.toNat_one, Nat.reduceSub, Nat.reduceAdd, Nat.reduceLeDiff, Int.reduceEq, Int.reduceLT, Int.reduceLE, Int.reduceNeg, Int.reduceAdd, Int.reduceSub, Int.reduceToNat, is_non hb, isTup_of hb, isBool_of hb, isBool_of ha]
      cases a <;> simp only [List.length_map, List.length_cons, List.length_nil, List.length_append, Y0, Y1, Y2, Y3, Y4, Y5, Y6, Y7, Y8, Y9, Y10, Y11, List.getElem?_cons_zero, List.getElem?_cons_succ, Option.bind_some, Option.map_some, id_eq, List.set_cons_zero, List.set_cons_succ, Bool.not_true, Bool.not_false, decide_true, decide_false, Nat.zero_le, Nat.zero_add, Int.toNat_zero, Int.toNat_one, Nat.reduceSub, Nat.reduceAdd, Nat.reduceLeDiff, Int.reduceEq, Int.reduceLT, Int.reduceLE, Int.reduceNeg, Int.reduceAdd, Int.reduceSub, Int.reduceToNat] <;> exact ⟨rfl, rfl⟩
    | int j =>
      simp only [List.length_map, List.length_cons, List.length_nil, List.length_append, Y0, Y1, Y2, Y3, Y4, Y5, Y6, Y7, Y8, Y9, Y10, Y11, List.getElem?_cons_zero, List.getElem?_cons_succ, Option.bind_some, Option.map_some, id_eq, List.set_cons_zero, List.set_cons_succ, Bool.not_true, Bool.not_false, decide_true, decide_false, Nat.zero_le, Nat.zero_add, Int.toNat_zero, Int.toNat_one, Nat.reduceSub, Nat.reduceAdd, Nat.reduceLeDiff, Int.reduceEq, Int.reduceLT, Int.reduceLE, Int.reduceNeg, Int.reduceAdd, Int.reduceSub, Int.reduceToNat, is_non hb, isTup_of hb, isBool_of hb, isInt_of hb, isBool_of ha, isInt_of ha]
      cases a <;> simp only [List.length_map, List.length_cons, List.length_nil, List.length_append, Y0, Y1, Y2, Y3, Y4, Y5, Y6, Y7, Y8, Y9, Y10, Y11, List.getElem?_cons_zero, List.getElem?_cons_succ, Option.bind_some, Option.map_some, id_eq, List.set_cons_zero, List.set_cons_succ, Bool.not_true, Bool.not_false, decide_true, decide_false, Nat.zero_le, Nat.zero_add, Int.toNat_zero, Int.toNat_one, Nat.reduceSub, Nat.reduceAdd, Nat.reduceLeDiff, Int.reduceEq, Int.reduceLT, Int.reduceLE, Int.reduceNeg, Int.reduceAdd, Int.reduceSub, Int.reduceToNat] <;> exact ⟨rfl, rfl⟩
    | str t =>
      simp only [List.length_map, List.length_cons, List.length_nil, List.length_append, Y0, Y1, Y2, Y3, Y4, Y5, Y6, Y7, Y8, Y9, Y10, Y11, List.getElem?_cons_zero, List.getElem?_cons_succ, Option.bind_some, Option.map_some, id_eq, List.set_cons_zero, List.set_cons_succ, Bool.not_true, Bool.not_false, decide_true, decide_false, Nat.zero_le, Nat.zero_add, Int.toNat_zero, Int.toNat_one, Nat.reduceSub, Nat.reduceAdd, Nat.reduceLeDiff, Int.reduceEq, Int.reduceLT, Int.reduceLE, Int.reduceNeg, Int.reduceAdd, Int.reduceSub, Int.reduceToNat, is_non hb, isTup_of hb, isBool_of hb, isInt_of hb, isStr_of ha]
      cases a <;> simp only [List.length_map, List.length_cons, List.length_nil, List.length_append, Y0, Y1, Y2, Y3, Y4, Y5, Y6, Y7, Y8, Y9, Y10, Y11, List.getElem?_cons_zero, List.getElem?_cons_succ, Option.bind_some, Option.map_some, id_eq, List.set_cons_zero, List.set_cons_succ, Bool.not_true, Bool.not_false, decide_true, decide_false, Nat.zero_le, Nat.zero_add, Int.toNat_zero, Int.toNat_one, Nat.reduceSub, Nat.reduceAdd, Nat.reduceLeDiff, Int.reduceEq, Int.reduceLT, Int.reduceLE, Int.reduceNeg, Int.reduceAdd, Int.reduceSub, Int.reduceToNat] <;> exact ⟨rfl, rfl⟩
    | tup ys => exact absurd hd (by show ¬ depDs ys + 1 ≤ 0; omega)
    | rol ys => cases hb
    | obj n => cases hb
  | succ n ih =>
    intro a b M ha hb hd
    refine run_eq S.h28 rfl ?_
    unfold f28_law_same
    cases b with
    | non => simp only [List.length_map, List.length_cons, List.length_nil, List.length_append, Y0, Y1, Y2, Y3, Y4, Y5, Y6, Y7, Y8, Y9, Y10, Y11, List.getElem?_cons_zero, List.getElem?_cons_succ, Option.bind_some, Option.map_some, id_eq, List.set_cons_zero, List.set_cons_succ, Bool.not_true, Bool.not_false, decide_true, decide_false, Nat.zero_le, Nat.zero_add, Int.toNat_zero, Int.toNat_one, Nat.reduceSub, Nat.reduceAdd, Nat.reduceLeDiff, Int.reduceEq, Int.reduceLT, Int.reduceLE, Int.reduceNeg, Int.reduceAdd, Int.reduceSub, Int.reduceToNat, is_non ha, is_non hb]; exact ⟨by cases a <;> rfl, rfl⟩
    | bl c =>
      simp only [List.length_map, List.length_cons, List.length_nil, List.length_append, Y0, Y1, Y2, Y3, Y4, Y5, Y6, Y7, Y8, Y9, Y10, Y11, List.getElem?_cons_zero, List.getElem?_cons_succ, Option.bind_some, Option.map_some, id_eq, List.set_cons_zero, List.set_cons_succ, Bool.not_true, Bool.not_false, decide_true, decide_false, Nat.zero_le, Nat.zero_add, Int.toNat_zero, Int.toNat_one, Nat.reduceSub, Nat.reduceAdd, Nat.reduceLeDiff, Int.reduceEq, Int.reduceLT, Int.reduceLE, Int.reduceNeg, Int.reduceAdd, Int.reduceSub, Int.reduceToNat, is_non hb, isTup_of hb, isBool_of hb, isBool_of ha]
      cases a <;> simp only [List.length_map, List.length_cons, List.length_nil, List.length_append, Y0, Y1, Y2, Y3, Y4, Y5, Y6, Y7, Y8, Y9, Y10, Y11, List.getElem?_cons_zero, List.getElem?_cons_succ, Option.bind_some, Option.map_some, id_eq, List.set_cons_zero, List.set_cons_succ, Bool.not_true, Bool.not_false, decide_true, decide_false, Nat.zero_le, Nat.zero_add, Int.toNat_zero, Int.toNat_one, Nat.reduceSub, Nat.reduceAdd, Nat.reduceLeDiff, Int.reduceEq, Int.reduceLT, Int.reduceLE, Int.reduceNeg, Int.reduceAdd, Int.reduceSub, Int.reduceToNat] <;> exact ⟨rfl, rfl⟩
    | int j =>
      simp only [List.length_map, List.length_cons, List.length_nil, List.length_append, Y0, Y1, Y2, Y3, Y4, Y5, Y6, Y7, Y8, Y9, Y10, Y11, List.getElem?_cons_zero, List.getElem?_cons_succ, Option.bind_some, Option.map_some, id_eq, List.set_cons_zero, List.set_cons_succ, Bool.not_true, Bool.not_false, decide_true, decide_false, Nat.zero_le, Nat.zero_add, Int.toNat_zero, Int.toNat_one, Nat.reduceSub, Nat.reduceAdd, Nat.reduceLeDiff, Int.reduceEq, Int.reduceLT, Int.reduceLE, Int.reduceNeg, Int.reduceAdd, Int.reduceSub, Int.reduceToNat, is_non hb, isTup_of hb, isBool_of hb, isInt_of hb, isBool_of ha, isInt_of ha]
      cases a <;> simp only [List.length_map, List.length_cons, List.length_nil, List.length_append, Y0, Y1, Y2, Y3, Y4, Y5, Y6, Y7, Y8, Y9, Y10, Y11, List.getElem?_cons_zero, List.getElem?_cons_succ, Option.bind_some, Option.map_some, id_eq, List.set_cons_zero, List.set_cons_succ, Bool.not_true, Bool.not_false, decide_true, decide_false, Nat.zero_le, Nat.zero_add, Int.toNat_zero, Int.toNat_one, Nat.reduceSub, Nat.reduceAdd, Nat.reduceLeDiff, Int.reduceEq, Int.reduceLT, Int.reduceLE, Int.reduceNeg, Int.reduceAdd, Int.reduceSub, Int.reduceToNat] <;> exact ⟨rfl, rfl⟩
    | str t =>
      simp only [List.length_map, List.length_cons, List.length_nil, List.length_append, Y0, Y1, Y2, Y3, Y4, Y5, Y6, Y7, Y8, Y9, Y10, Y11, List.getElem?_cons_zero, List.getElem?_cons_succ, Option.bind_some, Option.map_some, id_eq, List.set_cons_zero, List.set_cons_succ, Bool.not_true, Bool.not_false, decide_true, decide_false, Nat.zero_le, Nat.zero_add, Int.toNat_zero, Int.toNat_one, Nat.reduceSub, Nat.reduceAdd, Nat.reduceLeDiff, Int.reduceEq, Int.reduceLT, Int.reduceLE, Int.reduceNeg, Int.reduceAdd, Int.reduceSub, Int.reduceToNat, is_non hb, isTup_of hb, isBool_of hb, isInt_of hb, isStr_of ha]
      cases a <;> simp only [List.length_map, List.length_cons, List.length_nil, List.length_append, Y0, Y1, Y2, Y3, Y4, Y5, Y6, Y7, Y8, Y9, Y10, Y11, List.getElem?_cons_zero, List.getElem?_cons_succ, Option.bind_some, Option.map_some, id_eq, List.set_cons_zero, List.set_cons_succ, Bool.not_true, Bool.not_false, decide_true, decide_false, Nat.zero_le, Nat.zero_add, Int.toNat_zero, Int.toNat_one, Nat.reduceSub, Nat.reduceAdd, Nat.reduceLeDiff, Int.reduceEq, Int.reduceLT, Int.reduceLE, Int.reduceNeg, Int.reduceAdd, Int.reduceSub, Int.reduceToNat] <;> exact ⟨rfl, rfl⟩
    | rol ys => cases hb
    | obj n => cases hb
    | tup ys =>
      obtain ⟨hy1, hy2⟩ := plainD_tup hb
      have hd : depDs ys + 1 ≤ n + 1 := hd
      cases a with
      | tup xs =>
        obtain ⟨hx1, hx2⟩ := plainD_tup ha
        have hbig : big = 4611686018427387904 := rfl
        by_cases hl : xs.length = ys.length
        · have hl' : (xs.length : Int) = (ys.length : Int) := by omega
          simp only [List.length_map, List.length_cons, List.length_nil, List.length_append, Y0, Y1, Y2, Y3, Y4, Y5, Y6, Y7, Y8, Y9, Y10, Y11, List.getElem?_cons_zero, List.getElem?_cons_succ, Option.bind_some, Option.map_some, id_eq, List.set_cons_zero, List.set_cons_succ, Bool.not_true, Bool.not_false, decide_true, decide_false, Nat.zero_le, Nat.zero_add, Int.toNat_zero, Int.toNat_one, Nat.reduceSub, Nat.reduceAdd, Nat.reduceLeDiff, Int.reduceEq, Int.reduceLT, Int.reduceLE, Int.reduceNeg, Int.reduceAdd, Int.reduceSub, Int.reduceToNat, is_non hb, hl', if_pos (show -big ≤ (ys.length : Int) ∧ (ys.length : Int) < big by omega)]
          refine seq_ok (fun _ _ => False) ?_ (fun _ _ h => h.elim)
          refine seq_ok (fun env M' => M' = M ∧ sameDs xs ys = true) (for_rng (fun j env M' => ∃ z : Option D, env = [some (.tup xs), some (.tup ys), z] ∧ M' = M ∧ sameDs (xs.drop j) (ys.drop j) = sameDs xs ys) ⟨none, rfl, rfl, rfl⟩ ?_ ?_) ?_
          · rintro j env M' ⟨z, rfl, rfl, hs⟩ hlt
            have hjy : j < ys.length := by omega
            have hjx : j < xs.length := by omega
            have ex : xs[j]? = some xs[j] := List.getElem?_eq_getElem hjx
            have ey : ys[j]? = some ys[j] := List.getElem?_eq_getElem hjy
            have ax : atI xs (0 + (j : Int)) = some xs[j] := by rw [Int.zero_add, at_lt (by omega) (by omega)]; exact ex
            have ay : atI ys (0 + (j : Int)) = some ys[j] := by rw [Int.zero_add, at_lt (by omega) (by omega)]; exact ey
            have e := ih xs[j] ys[j] M' (plainDs_get hx2 ex) (plainDs_get hy2 ey) (by have := depDs_get ey; omega)
            have e : run p (k + (n + 1)) 28 [xs[j], ys[j]] M' = .ok (.bl (sameD xs[j] ys[j])) M' := e
            rw [sameDs_drop ex ey] at hs
            unfold xBody
            cases hq : sameD xs[j] ys[j] with
            | true =>
              simp only [List.length_map, List.length_cons, List.length_nil, List.length_append, Y0, Y1, Y2, Y3, Y4, Y5, Y6, Y7, Y8, Y9, Y10, Y11, List.getElem?_cons_zero, List.getElem?_cons_succ, Option.bind_some, Option.map_some, id_eq, List.set_cons_zero, List.set_cons_succ, Bool.not_true, Bool.not_false, decide_true, decide_false, Nat.zero_le, Nat.zero_add, Int.toNat_zero, Int.toNat_one, Nat.reduceSub, Nat.reduceAdd, Nat.reduceLeDiff, Int.reduceEq, Int.reduceLT, Int.reduceLE, Int.reduceNeg, Int.reduceAdd, Int.reduceSub, Int.reduceToNat, ax, ay, e, hq]
              exact ⟨_, rfl, rfl, by rw [← hs, hq]; rfl⟩
            | false =>
              simp only [List.length_map, List.length_cons, List.length_nil, List.length_append, Y0, Y1, Y2, Y3, Y4, Y5, Y6, Y7, Y8, Y9, Y10, Y11, List.getElem?_cons_zero, List.getElem?_cons_succ, Option.bind_some, Option.map_some, id_eq, List.set_cons_zero, List.set_cons_succ, Bool.not_true, Bool.not_false, decide_true, decide_false, Nat.zero_le, Nat.zero_add, Int.toNat_zero, Int.toNat_one, Nat.reduceSub, Nat.reduceAdd, Nat.reduceLeDiff, Int.reduceEq, Int.reduceLT, Int.reduceLE, Int.reduceNeg, Int.reduceAdd, Int.reduceSub, Int.reduceToNat, ax, ay, e, hq]
              exact ⟨by show D.bl false = D.bl (sameDs xs ys); rw [← hs, hq]; rfl, rfl⟩
          · rintro env M' ⟨z, rfl, rfl, hs⟩
            refine ⟨rfl, ?_⟩
            rw [← hs, List.drop_eq_nil_of_le (by omega), List.drop_eq_nil_of_le (by omega)]; rfl
          · rintro env M' ⟨rfl, hs⟩
            simp only [List.length_map, List.length_cons, List.length_nil, List.length_append, Y0, Y1, Y2, Y3, Y4, Y5, Y6, Y7, Y8, Y9, Y10, Y11, List.getElem?_cons_zero, List.getElem?_cons_succ, Option.bind_some, Option.map_some, id_eq, List.set_cons_zero, List.set_cons_succ, Bool.not_true, Bool.not_false, decide_true, decide_false, Nat.zero_le, Nat.zero_add, Int.toNat_zero, Int.toNat_one, Nat.reduceSub, Nat.reduceAdd, Nat.reduceLeDiff, Int.reduceEq, Int.reduceLT, Int.reduceLE, Int.reduceNeg, Int.reduceAdd, Int.reduceSub, Int.reduceToNat]
            exact ⟨by show D.bl true = D.bl (sameDs xs ys); rw [hs], rfl⟩
        · have hl' : ¬ (xs.length : Int) = (ys.length : Int) := by omega
          simp only [List.length_map, List.length_cons, List.length_nil, List.length_append, Y0, Y1, Y2, Y3, Y4, Y5, Y6, Y7, Y8, Y9, Y10, Y11, List.getElem?_cons_zero, List.getElem?_cons_succ, Option.bind_some, Option.map_some, id_eq, List.set_cons_zero, List.set_cons_succ, Bool.not_true, Bool.not_false, decide_true, decide_false, Nat.zero_le, Nat.zero_add, Int.toNat_zero, Int.toNat_one, Nat.reduceSub, Nat.reduceAdd, Nat.reduceLeDiff, Int.reduceEq, Int.reduceLT, Int.reduceLE, Int.reduceNeg, Int.reduceAdd, Int.reduceSub, Int.reduceToNat, is_non hb, hl']
          exact ⟨by show D.bl false = D.bl (sameDs xs ys); rw [sameDs_len hl], rfl⟩
      | non => simp only [List.length_map, List.length_cons, List.length_nil, List.length_append, Y0, Y1, Y2, Y3, Y4, Y5, Y6, Y7, Y8, Y9, Y10, Y11, List.getElem?_cons_zero, List.getElem?_cons_succ, Option.bind_some, Option.map_some, id_eq, List.set_cons_zero, List.set_cons_succ, Bool.not_true, Bool.not_false, decide_true, decide_false, Nat.zero_le, Nat.zero_add, Int.toNat_zero, Int.toNat_one, Nat.reduceSub, Nat.reduceAdd, Nat.reduceLeDiff, Int.reduceEq, Int.reduceLT, Int.reduceLE, Int.reduceNeg, Int.reduceAdd, Int.reduceSub, Int.reduceToNat, is_non hb]; exact ⟨rfl, rfl⟩
      | bl c => simp only [List.length_map, List.length_cons, List.length_nil, List.length_append, Y0, Y1, Y2, Y3, Y4, Y5, Y6, Y7, Y8, Y9, Y10, Y11, List.getElem?_cons_zero, List.getElem?_cons_succ, Option.bind_some, Option.map_some, id_eq, List.set_cons_zero, List.set_cons_succ, Bool.not_true, Bool.not_false, decide_true, decide_false, Nat.zero_le, Nat.zero_add, Int.toNat_zero, Int.toNat_one, Nat.reduceSub, Nat.reduceAdd, Nat.reduceLeDiff, Int.reduceEq, Int.reduceLT, Int.reduceLE, Int.reduceNeg, Int.reduceAdd, Int.reduceSub, Int.reduceToNat, is_non hb]; exact ⟨rfl, rfl⟩
      | int j => simp only [List.length_map, List.length_cons, List.length_nil, List.length_append, Y0, Y1, Y2, Y3, Y4, Y5, Y6, Y7, Y8, Y9, Y10, Y11, List.getElem?_cons_zero, List.getElem?_cons_succ, Option.bind_some, Option.map_some, id_eq, List.set_cons_zero, List.set_cons_succ, Bool.not_true, Bool.not_false, decide_true, decide_false, Nat.zero_le, Nat.zero_add, Int.toNat_zero, Int.toNat_one, Nat.reduceSub, Nat.reduceAdd, Nat.reduceLeDiff, Int.reduceEq, Int.reduceLT, Int.reduceLE, Int.reduceNeg, Int.reduceAdd, Int.reduceSub, Int.reduceToNat, is_non hb]; exact ⟨rfl, rfl⟩
      | str s => simp only [List.length_map, List.length_cons, List.length_nil, List.length_append, Y0, Y1, Y2, Y3, Y4, Y5, Y6, Y7, Y8, Y9, Y10, Y11, List.getElem?_cons_zero, List.getElem?_cons_succ, Option.bind_some, Option.map_some, id_eq, List.set_cons_zero, List.set_cons_succ, Bool.not_true, Bool.not_false, decide_true, decide_false, Nat.zero_le, Nat.zero_add, Int.toNat_zero, Int.toNat_one, Nat.reduceSub, Nat.reduceAdd, Nat.reduceLeDiff, Int.reduceEq, Int.reduceLT, Int.reduceLE, Int.reduceNeg, Int.reduceAdd, Int.reduceSub, Int.reduceToNat, is_non hb]; exact ⟨rfl, rfl⟩
      | rol xs => cases ha
      | obj m => cases ha
end
end Py

set_option Elab.async false
set_option autoImplicit false
set_option linter.all false
set_option maxRecDepth 100000
set_option maxHeartbeats 4000000
/-! P28: numbers are read. -/
namespace Py
open PySem L2
inductive Rn where
  | val (n : Int) (j : Nat)
  | form
  | stop
/-- the rest of the octets; how many were read, what they are worth -/
def rnL : Nat → List Int → Nat → Int → Int → Rn
  | 0, _, _, _, _ => .form
  | _ + 1, [], _, _, _ => .stop
  | f + 1, x :: r, j, n, s => if x < 128 then (if x = 0 ∧ 0 < j then .form else .val (n + s * x) (j + 1)) else rnL f r (j + 1) (n + s * (x - 128)) (s * 128)
def rn (xs : List Int) (at_ : Nat) : Rn := rnL 8 (xs.drop at_) 0 0 1
abbrev sForm : List Nat := [102, 111, 114, 109]
abbrev sEnd : List Nat := [101, 110, 100]
abbrev sBad : List Nat := [98, 97, 100]
abbrev sValue : List Nat := [118, 97, 108, 117, 101]
def rnR (xs : List Int) (at_ : Nat) (M : Mem) : Res D := match rn xs at_ with
  | .val n j => .ok (.tup [.int n, .int ((at_ : Int) + (j : Int))]) M
  | .form => .exc ⟨11, [.int at_, .str sForm]⟩ M
  | .stop => .exc ⟨11, [.int xs.length, .str sEnd]⟩ M
def rnT (xs : List Int) (at_ : Nat) : D := match rn xs at_ with
  | .val n j => .tup [.str sValue, .int n, .int ((at_ : Int) + (j : Int))]
  | .form => .tup [.str sBad, .int at_, .str sForm]
  | .stop => .tup [.str sBad, .int xs.length, .str sEnd]
structure LibO (p : Prog) : Prop where
  h740 : p.fn 740 = some f740_read_number
  h741 : p.fn 741 = some f741_law_try
  g18 : p.gl 18 = some (.int 128)
  g19 : p.gl 19 = some (.int 8)
theorem any_rng {body : D → Env → Mem → SR} {Q : Fl → Env → Mem → Prop} {X : Exn → Env → Mem → Prop} (I : Nat → Env → Mem → Prop) {lo hi : Int} {env : Env} {M : Mem} (h : I 0 env M)
    (b : ∀ (j : Nat) env M, I j env M → lo + (j : Int) < hi → AnyS (body (.int (lo + (j : Int))) env M) (turnEnd (I (j + 1)) Q) X) (e : ∀ env M, I (hi - lo).toNat env M → Q .next env M) : AnyS (forSeq body (rngD lo hi) env M) Q X := by
  refine any_for (fun ds env M => ∃ j c : Nat, j + c = (hi - lo).toNat ∧ ds = ((List.range' j c).map fun (k : Nat) => D.int (lo + (k : Int))) ∧ I j env M) ⟨0, (hi - lo).toNat, by omega, by unfold rngD; rw [List.range_eq_range'], h⟩ ?_ ?_
  · rintro d ds env M ⟨j, c, hc, e1, hI⟩
    cases c with
    | zero => cases e1
    | succ c =>
      rw [List.range'_succ, List.map_cons] at e1
      cases e1
      have w := b j env M hI (by omega)
      rcases w.get with ⟨f, env', M', e2, q⟩ | ⟨x, env', M', e2, q⟩
      · refine ⟨.inl ⟨f, env', M', e2, ?_⟩⟩
        cases f with
        | next => exact ⟨j + 1, c, by omega, rfl, q⟩
        | cont => exact ⟨j + 1, c, by omega, rfl, q⟩
        | brk => exact q
        | ret v => exact q
      · exact ⟨.inr ⟨x, env', M', e2, q⟩⟩
  · rintro env M ⟨j, c, hc, e1, hI⟩
    cases c with
    | zero =>
      have : j = (hi - lo).toNat := by omega
      subst this
      exact e env M hI
    | succ c => rw [List.range'_succ, List.map_cons] at e1; cases e1
theorem pow128 : ∀ (j : Nat), j ≤ 8 → (128 : Int) ^ j ≤ 2 ^ 56 ∧ 0 < (128 : Int) ^ j := by
  intro j hj
  have : j = 0 ∨ j = 1 ∨ j = 2 ∨ j = 3 ∨ j = 4 ∨ j = 5 ∨ j = 6 ∨ j = 7 ∨ j = 8 := by omega
  rcases this with rfl | rfl | rfl | rfl | rfl | rfl | rfl | rfl | rfl <;> decide
section
variable {p : Prog} {k : Nat} {M : Mem} {m : Nat} {xs : List Int}
theorem drop_get {at_ j : Nat} {x : Int} {r : List Int} (h : xs.drop (at_ + j) = x :: r) : xs[at_ + j]? = some x ∧ xs.drop (at_ + (j + 1)) = r := by
  constructor
  · have := congrArg (fun l => l[0]?) h
    simpa using this
  · have := congrArg (fun l => l.drop 1) h
    simpa [List.drop_drop, Nat.add_assoc] using this
theorem run_read (L : LibO p) (hm : M[m]? = some (.lst (xs.map D.int))) (at_ : Nat) (ha : at_ ≤ xs.length) (hl : xs.length ≤ 100000) : run p (k + 1) 740 [.obj m, .int at_] M = rnR xs at_ M := by
  refine run_flat L.h740 rfl ?_
  unfold f740_read_number
  have hsz := sizeL
  have hbg : big = 4611686018427387904 := rfl
  have hR : ∀ (R : Rn), rn xs at_ = R → rnR xs at_ M = match R with
      | .val n j => .ok (.tup [.int n, .int ((at_ : Int) + (j : Int))]) M
      | .form => .exc ⟨11, [.int at_, .str sForm]⟩ M
      | .stop => .exc ⟨11, [.int xs.length, .str sEnd]⟩ M := fun R h => by unfold rnR; rw [h]
  have hmin : (if (at_ : Int) + 8 < (xs.length : Int) then (at_ : Int) + 8 else (xs.length : Int)) - (at_ : Int) = (min xs.length (at_ + 8) - at_ : Nat) := by
    split <;> omega
  simp only [List.length_map, List.length_cons, List.length_nil, List.length_append, Y0, Y1, Y2, Y3, Y4, Y5, Y6, Y7, Y8, Y9, Y10, Y11, List.getElem?_cons_zero, List.getElem?_cons_succ, Option.bind_some, Option.map_some, id_eq, List.set_cons_zero, List.set_cons_succ, Bool.not_true, Bool.not_false, decide_true, decide_false, Nat.zero_le, Nat.zero_add, Int.toNat_zero, Int.toNat_one, Nat.reduceSub, Nat.reduceAdd, Nat.reduceLeDiff, Int.reduceEq, Int.reduceLT, Int.reduceLE, Int.reduceNeg, Int.reduceAdd, Int.reduceSub, Int.reduceToNat, hm, L.g18, L.g19]
  generalize hhi : (if (at_ : Int) + 8 < (xs.length : Int) then (at_ : Int) + 8 else (xs.length : Int)) = hi at hmin ⊢
  have hb : (at_ : Int) ≤ hi ∧ hi ≤ xs.length ∧ hi ≤ (at_ : Int) + 8 ∧ (hi = (at_ : Int) + 8 ∨ (hi = xs.length ∧ (xs.length : Int) ≤ (at_ : Int) + 8)) := by
    rw [← hhi]
    split <;> omega
  clear hhi hmin
  simp only [List.length_map, List.length_cons, List.length_nil, List.length_append, Y0, Y1, Y2, Y3, Y4, Y5, Y6, Y7, Y8, Y9, Y10, Y11, List.getElem?_cons_zero, List.getElem?_cons_succ, Option.bind_some, Option.map_some, id_eq, List.set_cons_zero, List.set_cons_succ, Bool.not_true, Bool.not_false, decide_true, decide_false, Nat.zero_le, Nat.zero_add, Int.toNat_zero, Int.toNat_one, Nat.reduceSub, Nat.reduceAdd, Nat.reduceLeDiff, Int.reduceEq, Int.reduceLT, Int.reduceLE, Int.reduceNeg, Int.reduceAdd, Int.reduceSub, Int.reduceToNat, if_pos (show -big ≤ (at_ : Int) ∧ (at_ : Int) < big ∧ -big ≤ hi ∧ hi < big by omega), forWk_seq]
  refine any_seq (fun env M' => ∃ (n s : Int) (x4 x5 : Option D), env = [some (.obj m), some (.int at_), some (.int n), some (.int s), x4, x5] ∧ M' = M ∧ rnL (8 - (hi - at_).toNat) (xs.drop (at_ + (hi - at_).toNat)) (hi - at_).toNat n s = rn xs at_) ?_ ?_
  · refine any_rng (fun j env M' => ∃ (n s : Int) (x4 x5 : Option D), env = [some (.obj m), some (.int at_), some (.int n), some (.int s), x4, x5] ∧ M' = M ∧ (j : Int) ≤ hi - at_ ∧ s = 128 ^ j ∧ rnL (8 - j) (xs.drop (at_ + j)) j n s = rn xs at_) ⟨0, 1, none, none, rfl, rfl, by omega, rfl, by unfold rn; simp⟩ ?_ ?_
    · rintro j env M' ⟨n, s, x4, x5, rfl, rfl, hj, hs, hr⟩ hlt
      have hj8 : j < 8 := by omega
      have hjl : at_ + j < xs.length := by omega
      obtain ⟨x, r, hx⟩ : ∃ x r, xs.drop (at_ + j) = x :: r := ⟨_, _, List.drop_eq_getElem_cons hjl⟩
      obtain ⟨g1, g2⟩ := drop_get hx
      have hat : atI (xs.map D.int) ((at_ : Int) + (j : Int)) = some (.int x) := by
        rw [at_lt (by omega) (by simp; omega), show ((at_ : Int) + (j : Int)).toNat = at_ + j by omega, List.getElem?_map, g1]; rfl
      obtain ⟨f, hf⟩ : ∃ f, 8 - j = f + 1 := ⟨7 - j, by omega⟩
      rw [hx, hf] at hr
      have hr : (if x < 128 then (if x = 0 ∧ 0 < j then Rn.form else .val (n + s * x) (j + 1)) else rnL f r (j + 1) (n + s * (x - 128)) (s * 128)) = rn xs at_ := hr
      obtain ⟨p1, p2⟩ := pow128 j (by omega)
      rw [← hs] at p1 p2
      have hsm : small s = true := small_of (by omega) (by omega)
      have m1 : ∀ y M, opBin .mul (.int s) (.int y) M = some (.int (s * y), M) := fun y M => o_mul (by rw [hsm]; rfl)
      unfold xBody
      by_cases h1 : x < 128
      · rw [if_pos h1] at hr
        by_cases h2 : x = 0
        · by_cases h3 : 0 < j
          · rw [if_pos ⟨h2, h3⟩] at hr
            simp only [List.length_map, List.length_cons, List.length_nil, List.length_append, Y0, Y1, Y2, Y3, Y4, Y5, Y6, Y7, Y8, Y9, Y10, Y11, List.getElem?_cons_zero, List.getElem?_cons_succ, Option.bind_some, Option.map_some, id_eq, List.set_cons_zero, List.set_cons_succ, Bool.not_true, Bool.not_false, decide_true, decide_false, Nat.zero_le, Nat.zero_add, Int.toNat_zero, Int.toNat_one, Nat.reduceSub, Nat.reduceAdd, Nat.reduceLeDiff, Int.reduceEq, Int.reduceLT, Int.reduceLE, Int.reduceNeg, Int.reduceAdd, Int.reduceSub, Int.reduceToNat, hm, hat, L.g18, decide_eq_true h1, decide_eq_true h2, show decide ((at_ : Int) < (at_ : Int) + (j : Int)) = true from decide_eq_true (by omega), s_raise, seqS_exc, AnyS_exc]
            exact ⟨by rw [hR _ hr.symm], rfl, Keep.refl⟩
          · rw [if_neg (fun h => h3 h.2)] at hr
            simp only [List.length_map, List.length_cons, List.length_nil, List.length_append, Y0, Y1, Y2, Y3, Y4, Y5, Y6, Y7, Y8, Y9, Y10, Y11, List.getElem?_cons_zero, List.getElem?_cons_succ, Option.bind_some, Option.map_some, id_eq, List.set_cons_zero, List.set_cons_succ, Bool.not_true, Bool.not_false, decide_true, decide_false, Nat.zero_le, Nat.zero_add, Int.toNat_zero, Int.toNat_one, Nat.reduceSub, Nat.reduceAdd, Nat.reduceLeDiff, Int.reduceEq, Int.reduceLT, Int.reduceLE, Int.reduceNeg, Int.reduceAdd, Int.reduceSub, Int.reduceToNat, hm, hat, L.g18, decide_eq_true h1, decide_eq_true h2, show decide ((at_ : Int) < (at_ : Int) + (j : Int)) = false from decide_eq_false (by omega), m1, AnyS_ok]
            exact ⟨by rw [hR _ hr.symm]; simp [Int.add_assoc], rfl, Keep.refl⟩
        · rw [if_neg (fun h => h2 h.1)] at hr
          simp only [List.length_map, List.length_cons, List.length_nil, List.length_append, Y0, Y1, Y2, Y3, Y4, Y5, Y6, Y7, Y8, Y9, Y10, Y11, List.getElem?_cons_zero, List.getElem?_cons_succ, Option.bind_some, Option.map_some, id_eq, List.set_cons_zero, List.set_cons_succ, Bool.not_true, Bool.not_false, decide_true, decide_false, Nat.zero_le, Nat.zero_add, Int.toNat_zero, Int.toNat_one, Nat.reduceSub, Nat.reduceAdd, Nat.reduceLeDiff, Int.reduceEq, Int.reduceLT, Int.reduceLE, Int.reduceNeg, Int.reduceAdd, Int.reduceSub, Int.reduceToNat, hm, hat, L.g18, decide_eq_true h1, decide_eq_false h2, m1, AnyS_ok]
          exact ⟨by rw [hR _ hr.symm]; simp [Int.add_assoc], rfl, Keep.refl⟩
      · rw [if_neg h1] at hr
        simp only [List.length_map, List.length_cons, List.length_nil, List.length_append, Y0, Y1, Y2, Y3, Y4, Y5, Y6, Y7, Y8, Y9, Y10, Y11, List.getElem?_cons_zero, List.getElem?_cons_succ, Option.bind_some, Option.map_some, id_eq, List.set_cons_zero, List.set_cons_succ, Bool.not_true, Bool.not_false, decide_true, decide_false, Nat.zero_le, Nat.zero_add, Int.toNat_zero, Int.toNat_one, Nat.reduceSub, Nat.reduceAdd, Nat.reduceLeDiff, Int.reduceEq, Int.reduceLT, Int.reduceLE, Int.reduceNeg, Int.reduceAdd, Int.reduceSub, Int.reduceToNat, hm, hat, L.g18, decide_eq_false h1, m1, AnyS_ok]
        exact ⟨_, _, _, _, rfl, rfl, by omega, by rw [hs, Int.pow_succ], by rw [show 8 - (j + 1) = f by omega, g2]; exact hr⟩
    · rintro env M' ⟨n, s, x4, x5, rfl, rfl, hj, hs, hr⟩
      exact ⟨n, s, x4, x5, rfl, rfl, hr⟩
  · rintro env M' ⟨n, s, x4, x5, rfl, rfl, hr⟩
    rcases hb.2.2.2 with h8 | ⟨hl2, h8⟩
    · rw [show (hi - at_).toNat = 8 by omega] at hr
      have hr : Rn.form = rn xs at_ := hr
      simp only [List.length_map, List.length_cons, List.length_nil, List.length_append, Y0, Y1, Y2, Y3, Y4, Y5, Y6, Y7, Y8, Y9, Y10, Y11, List.getElem?_cons_zero, List.getElem?_cons_succ, Option.bind_some, Option.map_some, id_eq, List.set_cons_zero, List.set_cons_succ, Bool.not_true, Bool.not_false, decide_true, decide_false, Nat.zero_le, Nat.zero_add, Int.toNat_zero, Int.toNat_one, Nat.reduceSub, Nat.reduceAdd, Nat.reduceLeDiff, Int.reduceEq, Int.reduceLT, Int.reduceLE, Int.reduceNeg, Int.reduceAdd, Int.reduceSub, Int.reduceToNat, hm, L.g19, show decide ((8 : Int) ≤ (xs.length : Int) - (at_ : Int)) = true from decide_eq_true (by omega), s_raise, seqS_exc, AnyS_exc]
      exact ⟨by rw [hR _ hr.symm], rfl, Keep.refl⟩
    · by_cases h9 : (xs.length : Int) = (at_ : Int) + 8
      · rw [show (hi - at_).toNat = 8 by omega] at hr
        have hr : Rn.form = rn xs at_ := hr
        simp only [List.length_map, List.length_cons, List.length_nil, List.length_append, Y0, Y1, Y2, Y3, Y4, Y5, Y6, Y7, Y8, Y9, Y10, Y11, List.getElem?_cons_zero, List.getElem?_cons_succ, Option.bind_some, Option.map_some, id_eq, List.set_cons_zero, List.set_cons_succ, Bool.not_true, Bool.not_false, decide_true, decide_false, Nat.zero_le, Nat.zero_add, Int.toNat_zero, Int.toNat_one, Nat.reduceSub, Nat.reduceAdd, Nat.reduceLeDiff, Int.reduceEq, Int.reduceLT, Int.reduceLE, Int.reduceNeg, Int.reduceAdd, Int.reduceSub, Int.reduceToNat, hm, L.g19, show decide ((8 : Int) ≤ (xs.length : Int) - (at_ : Int)) = true from decide_eq_true (by omega), s_raise, seqS_exc, AnyS_exc]
        exact ⟨by rw [hR _ hr.symm], rfl, Keep.refl⟩
      · rw [show at_ + (hi - at_).toNat = xs.length by omega, List.drop_length] at hr
        obtain ⟨f, hf⟩ : ∃ f, 8 - (hi - at_).toNat = f + 1 := ⟨7 - (hi - at_).toNat, by omega⟩
        rw [hf] at hr
        have hr : Rn.stop = rn xs at_ := hr
        simp only [List.length_map, List.length_cons, List.length_nil, List.length_append, Y0, Y1, Y2, Y3, Y4, Y5, Y6, Y7, Y8, Y9, Y10, Y11, List.getElem?_cons_zero, List.getElem?_cons_succ, Option.bind_some, Option.map_some, id_eq, List.set_cons_zero, List.set_cons_succ, Bool.not_true, Bool.not_false, decide_true, decide_false, Nat.zero_le, Nat.zero_add, Int.toNat_zero, Int.toNat_one, Nat.reduceSub, Nat.reduceAdd, Nat.reduceLeDiff, Int.reduceEq, Int.reduceLT, Int.reduceLE, Int.reduceNeg, Int.reduceAdd, Int.reduceSub, Int.reduceToNat, hm, L.g19, show decide ((8 : Int) ≤ (xs.length : Int) - (at_ : Int)) = false from decide_eq_false (by omega), s_raise, seqS_exc, AnyS_exc]
        exact ⟨by rw [hR _ hr.symm], rfl, Keep.refl⟩
theorem run_try (L : LibO p) (hm : M[m]? = some (.lst (xs.map D.int))) (at_ : Nat) (ha : at_ ≤ xs.length) (hl : xs.length ≤ 100000) : run p (k + 2) 741 [.obj m, .int at_] M = .ok (rnT xs at_) M := by
  have e1 := run_read (k := k) L hm at_ ha hl
  have hsz := sizeL
  unfold rnR at e1
  have hT : ∀ (R : Rn), rn xs at_ = R → rnT xs at_ = match R with
      | .val n j => .tup [.str sValue, .int n, .int ((at_ : Int) + (j : Int))]
      | .form => .tup [.str sBad, .int at_, .str sForm]
      | .stop => .tup [.str sBad, .int xs.length, .str sEnd] := fun R h => by unfold rnT; rw [h]
  have h3 : ∀ (a b : D), evX (.tup (.cons (.str [98, 97, 100]) (.cons (.fld 0) (.cons (.fld 1) .nil)))) [a, b] = some (.tup [.str sBad, a, b]) := fun a b => by
    show (if [D.str sBad, a, b].length ≤ sizeLine then some (D.tup [.str sBad, a, b]) else none) = _
    rw [if_pos (by show 3 ≤ sizeLine; omega)]
  have hit : ∀ (fs : List D) {a b : D} (_ : fs = [a, b]), catch_ 11 [] 3 (.tup (.cons (.str [98, 97, 100]) (.cons (.fld 0) (.cons (.fld 1) .nil)))) (.exc ⟨11, fs⟩ [some (.obj m), some (.int at_), none, none] M) = .ok (.ret (.tup [.str sBad, a, b])) [some (.obj m), some (.int at_), none, none] M := fun fs a b h => by
    subst h
    exact catch_hit rfl (show 3 < 4 by decide) (h3 a b)
  cases hr : rn xs at_ with
  | val n j =>
    rw [hr] at e1
    refine run_eq L.h741 rfl ?_
    unfold f741_law_try
    simp only [List.length_map, List.length_cons, List.length_nil, List.length_append, Y0, Y1, Y2, Y3, Y4, Y5, Y6, Y7, Y8, Y9, Y10, Y11, List.getElem?_cons_zero, List.getElem?_cons_succ, Option.bind_some, Option.map_some, id_eq, List.set_cons_zero, List.set_cons_succ, Bool.not_true, Bool.not_false, decide_true, decide_false, Nat.zero_le, Nat.zero_add, Int.toNat_zero, Int.toNat_one, Nat.reduceSub, Nat.reduceAdd, Nat.reduceLeDiff, Int.reduceEq, Int.reduceLT, Int.reduceLE, Int.reduceNeg, Int.reduceAdd, Int.reduceSub, Int.reduceToNat, s_try, e1, show decide (((2 : Nat) : Int) = 2) = true from rfl, catch_ok]
    exact ⟨(hT _ hr).symm, rfl⟩
  | form =>
    rw [hr] at e1
    refine run_eq L.h741 rfl ?_
    unfold f741_law_try
    simp only [List.length_map, List.length_cons, List.length_nil, List.length_append, Y0, Y1, Y2, Y3, Y4, Y5, Y6, Y7, Y8, Y9, Y10, Y11, List.getElem?_cons_zero, List.getElem?_cons_succ, Option.bind_some, Option.map_some, id_eq, List.set_cons_zero, List.set_cons_succ, Bool.not_true, Bool.not_false, decide_true, decide_false, Nat.zero_le, Nat.zero_add, Int.toNat_zero, Int.toNat_one, Nat.reduceSub, Nat.reduceAdd, Nat.reduceLeDiff, Int.reduceEq, Int.reduceLT, Int.reduceLE, Int.reduceNeg, Int.reduceAdd, Int.reduceSub, Int.reduceToNat, s_try, e1, stk_exc, seqS_exc, hit [.int at_, .str sForm] rfl]
    exact ⟨(hT _ hr).symm, rfl⟩
  | stop =>
    rw [hr] at e1
    refine run_eq L.h741 rfl ?_
    unfold f741_law_try
    simp only [List.length_map, List.length_cons, List.length_nil, List.length_append, Y0, Y1, Y2, Y3, Y4, Y5, Y6, Y7, Y8, Y9, Y10, Y11, List.getElem?_cons_zero, List.getElem?_cons_succ, Option.bind_some, Option.map_some, id_eq, List.set_cons_zero, List.set_cons_succ, Bool.not_true, Bool.not_false, decide_true, decide_false, Nat.zero_le, Nat.zero_add, Int.toNat_zero, Int.toNat_one, Nat.reduceSub, Nat.reduceAdd, Nat.reduceLeDiff, Int.reduceEq, Int.reduceLT, Int.reduceLE, Int.reduceNeg, Int.reduceAdd, Int.reduceSub, Int.reduceToNat, s_try, e1, stk_exc, seqS_exc, hit [.int xs.length, .str sEnd] rfl]
    exact ⟨(hT _ hr).symm, rfl⟩
end
end Py

set_option Elab.async false
set_option autoImplicit false
set_option linter.all false
set_option maxRecDepth 100000
set_option maxHeartbeats 4000000
/-! P29: lists of ints: ==; the law's reading of a number. -/
namespace Py
open PySem L2
theorem eqv_ints : ∀ xs ys : List Int, PyData.eqvAll (pys (xs.map D.int)) (pys (ys.map D.int)) = decide (xs = ys)
  | [], [] => rfl
  | [], y :: ys => rfl
  | x :: xs, [] => rfl
  | x :: xs, y :: ys => by
    show ((x == y) && PyData.eqvAll (pys (xs.map D.int)) (pys (ys.map D.int))) = _
    rw [eqv_ints xs ys, Bool.eq_iff_iff, Bool.and_eq_true, beq_iff_eq, decide_eq_true_eq, decide_eq_true_eq, List.cons.injEq]
theorem depth_int1 : ∀ zs : List Int, PyData.depthAll (pys (zs.map D.int)) ≤ 1
  | [] => by simp [pys, PyData.depthAll]
  | z :: zs => by
    have := depth_int1 zs
    simp only [List.map_cons, pys, Py.py, PyData.depthAll, PyData.depth]
    omega
theorem okPy_ints (zs : List Int) : okPy (.list (pys (zs.map D.int))) = true := by
  unfold okPy
  have h1 := depth_int1 zs
  have e : PyData.canLay0 (.list (pys (zs.map D.int))) = true := lay_int zs
  have d : (PyData.list (pys (zs.map D.int))).depth ≤ 150 := by
    simp only [PyData.depth]
    omega
  rw [e, decide_eq_true d]; rfl
section
variable {M : Mem} {a b : Nat} {xs ys : List Int}
theorem eq_lists (ha : M[a]? = some (.lst (xs.map D.int))) (hb : M[b]? = some (.lst (ys.map D.int))) : opCmp .eq (.obj a) (.obj b) M = some (decide (xs = ys)) := by
  have pa : pyM M (.obj a) = some (.list (pys (xs.map D.int))) := by
    show (match M[a]? with | some (.lst xs) => if flats xs then some (PyData.list (pys xs)) else none | _ => none) = _
    rw [ha]
    show (if flats (xs.map D.int) then _ else _) = _
    rw [flats_int]; rfl
  have pb : pyM M (.obj b) = some (.list (pys (ys.map D.int))) := by
    show (match M[b]? with | some (.lst xs) => if flats xs then some (PyData.list (pys xs)) else none | _ => none) = _
    rw [hb]
    show (if flats (ys.map D.int) then _ else _) = _
    rw [flats_int]; rfl
  show (match pyM M (.obj a), pyM M (.obj b) with | some x, some y => if okPy x && okPy y then some (PyData.eqv x y) else none | _, _ => none) = _
  rw [pa, pb]
  show (if okPy (.list (pys (xs.map D.int))) && okPy (.list (pys (ys.map D.int))) then some (PyData.eqvAll (pys (xs.map D.int)) (pys (ys.map D.int))) else none) = _
  rw [okPy_ints, okPy_ints, eqv_ints]; rfl
theorem ne_lists (ha : M[a]? = some (.lst (xs.map D.int))) (hb : M[b]? = some (.lst (ys.map D.int))) : opCmp .ne (.obj a) (.obj b) M = some (!decide (xs = ys)) := by
  show (opCmp .eq (.obj a) (.obj b) M).map (!·) = _
  rw [eq_lists ha hb]; rfl
end
section
variable {p : Prog} {k : Nat} {M : Mem} {m : Nat} {xs : List Int}
theorem run_law_read (h : p.fn 110 = some f110_law_read_number) (hm : M[m]? = some (.lst (xs.map D.int))) (at_ : Nat) (ha : at_ ≤ xs.length) (hl : xs.length ≤ 100000) : run p (k + 1) 110 [.obj m, .int at_] M = .ok (rnT xs at_) M := by
  refine run_eq h rfl ?_
  unfold f110_law_read_number
  have hsz := sizeL
  have hT : ∀ (R : Rn), rn xs at_ = R → rnT xs at_ = match R with
      | .val n j => .tup [.str sValue, .int n, .int ((at_ : Int) + (j : Int))]
      | .form => .tup [.str sBad, .int at_, .str sForm]
      | .stop => .tup [.str sBad, .int xs.length, .str sEnd] := fun R h => by subst h; unfold rnT; generalize rn xs at_ = R; cases R <;> rfl
  simp only [List.length_map, List.length_cons, List.length_nil, List.length_append, Y0, Y1, Y2, Y3, Y4, Y5, Y6, Y7, Y8, Y9, Y10, Y11, List.getElem?_cons_zero, List.getElem?_cons_succ, Option.bind_some, Option.map_some, id_eq, List.set_cons_zero, List.set_cons_succ, Bool.not_true, Bool.not_false, decide_true, decide_false, Nat.zero_le, Nat.zero_add, Int.toNat_zero, Int.toNat_one, Nat.reduceSub, Nat.reduceAdd, Nat.reduceLeDiff, Int.reduceEq, Int.reduceLT, Int.reduceLE, Int.reduceNeg, Int.reduceAdd, Int.reduceSub, Int.reduceToNat, if_pos (show -big ≤ (8 : Int) ∧ (8 : Int) < big by decide)]
  refine seq_ok (fun env M' => ∃ (n s : Int) (x4 x5 : Option D), env = [some (.obj m), some (.int at_), some (.int n), some (.int s), x4, x5] ∧ M' = M ∧ rn xs at_ = .form) ?_ ?_
  · refine for_rng (fun j env M' => ∃ (n s : Int) (x4 x5 : Option D), env = [some (.obj m), some (.int at_), some (.int n), some (.int s), x4, x5] ∧ M' = M ∧ s = 128 ^ j ∧ rnL (8 - j) (xs.drop (at_ + j)) j n s = rn xs at_) ⟨0, 1, none, none, rfl, rfl, rfl, by unfold rn; simp⟩ ?_ ?_
    · rintro j env M' ⟨n, s, x4, x5, rfl, rfl, hs, hr⟩ hlt
      have hj8 : j < 8 := by omega
      obtain ⟨f, hf⟩ : ∃ f, 8 - j = f + 1 := ⟨7 - j, by omega⟩
      rw [hf] at hr
      obtain ⟨p1, p2⟩ := pow128 j (by omega)
      rw [← hs] at p1 p2
      have hsm : small s = true := small_of (by omega) (by omega)
      have m1 : ∀ y M, opBin .mul (.int s) (.int y) M = some (.int (s * y), M) := fun y M => o_mul (by rw [hsm]; rfl)
      have z0 : (0 : Int) + (j : Int) = j := Int.zero_add _
      unfold xBody
      by_cases hjl : at_ + j < xs.length
      · obtain ⟨x, r, hx⟩ : ∃ x r, xs.drop (at_ + j) = x :: r := ⟨_, _, List.drop_eq_getElem_cons hjl⟩
        obtain ⟨g1, g2⟩ := drop_get hx
        have hat : atI (xs.map D.int) ((at_ : Int) + (j : Int)) = some (.int x) := by
          rw [at_lt (by omega) (by simp; omega), show ((at_ : Int) + (j : Int)).toNat = at_ + j by omega, List.getElem?_map, g1]; rfl
        rw [hx] at hr
        have hr : (if x < 128 then (if x = 0 ∧ 0 < j then Rn.form else .val (n + s * x) (j + 1)) else rnL f r (j + 1) (n + s * (x - 128)) (s * 128)) = rn xs at_ := hr
        have hin : decide ((xs.length : Int) ≤ (at_ : Int) + (j : Int)) = false := decide_eq_false (by omega)
        by_cases h1 : x < 128
        · rw [if_pos h1] at hr
          by_cases h2 : x = 0
          · by_cases h3 : 0 < j
            · rw [if_pos ⟨h2, h3⟩] at hr
              simp only [List.length_map, List.length_cons, List.length_nil, List.length_append, Y0, Y1, Y2, Y3, Y4, Y5, Y6, Y7, Y8, Y9, Y10, Y11, List.getElem?_cons_zero, List.getElem?_cons_succ, Option.bind_some, Option.map_some, id_eq, List.set_cons_zero, List.set_cons_succ, Bool.not_true, Bool.not_false, decide_true, decide_false, Nat.zero_le, Nat.zero_add, Int.toNat_zero, Int.toNat_one, Nat.reduceSub, Nat.reduceAdd, Nat.reduceLeDiff, Int.reduceEq, Int.reduceLT, Int.reduceLE, Int.reduceNeg, Int.reduceAdd, Int.reduceSub, Int.reduceToNat, z0, hm, hin, hat, decide_eq_true h1, decide_eq_true h2, show decide ((0 : Int) < (j : Int)) = true from decide_eq_true (by omega)]
              exact ⟨by rw [hT _ hr.symm], rfl⟩
            · rw [if_neg (fun h => h3 h.2)] at hr
              simp only [List.length_map, List.length_cons, List.length_nil, List.length_append, Y0, Y1, Y2, Y3, Y4, Y5, Y6, Y7, Y8, Y9, Y10, Y11, List.getElem?_cons_zero, List.getElem?_cons_succ, Option.bind_some, Option.map_some, id_eq, List.set_cons_zero, List.set_cons_succ, Bool.not_true, Bool.not_false, decide_true, decide_false, Nat.zero_le, Nat.zero_add, Int.toNat_zero, Int.toNat_one, Nat.reduceSub, Nat.reduceAdd, Nat.reduceLeDiff, Int.reduceEq, Int.reduceLT, Int.reduceLE, Int.reduceNeg, Int.reduceAdd, Int.reduceSub, Int.reduceToNat, z0, hm, hin, hat, decide_eq_true h1, decide_eq_true h2, show decide ((0 : Int) < (j : Int)) = false from decide_eq_false (by omega), m1]
              exact ⟨by rw [hT _ hr.symm]; simp [Int.add_assoc], rfl⟩
          · rw [if_neg (fun h => h2 h.1)] at hr
            simp only [List.length_map, List.length_cons, List.length_nil, List.length_append, Y0, Y1, Y2, Y3, Y4, Y5, Y6, Y7, Y8, Y9, Y10, Y11, List.getElem?_cons_zero, List.getElem?_cons_succ, Option.bind_some, Option.map_some, id_eq, List.set_cons_zero, List.set_cons_succ, Bool.not_true, Bool.not_false, decide_true, decide_false, Nat.zero_le, Nat.zero_add, Int.toNat_zero, Int.toNat_one, Nat.reduceSub, Nat.reduceAdd, Nat.reduceLeDiff, Int.reduceEq, Int.reduceLT, Int.reduceLE, Int.reduceNeg, Int.reduceAdd, Int.reduceSub, Int.reduceToNat, z0, hm, hin, hat, decide_eq_true h1, decide_eq_false h2, m1]
            exact ⟨by rw [hT _ hr.symm]; simp [Int.add_assoc], rfl⟩
        · rw [if_neg h1] at hr
          simp only [List.length_map, List.length_cons, List.length_nil, List.length_append, Y0, Y1, Y2, Y3, Y4, Y5, Y6, Y7, Y8, Y9, Y10, Y11, List.getElem?_cons_zero, List.getElem?_cons_succ, Option.bind_some, Option.map_some, id_eq, List.set_cons_zero, List.set_cons_succ, Bool.not_true, Bool.not_false, decide_true, decide_false, Nat.zero_le, Nat.zero_add, Int.toNat_zero, Int.toNat_one, Nat.reduceSub, Nat.reduceAdd, Nat.reduceLeDiff, Int.reduceEq, Int.reduceLT, Int.reduceLE, Int.reduceNeg, Int.reduceAdd, Int.reduceSub, Int.reduceToNat, z0, hm, hin, hat, decide_eq_false h1, m1]
          exact ⟨_, _, _, _, rfl, rfl, by rw [hs, Int.pow_succ], by rw [show 8 - (j + 1) = f by omega, g2]; exact hr⟩
      · rw [List.drop_eq_nil_of_le (by omega)] at hr
        have hr : Rn.stop = rn xs at_ := hr
        simp only [List.length_map, List.length_cons, List.length_nil, List.length_append, Y0, Y1, Y2, Y3, Y4, Y5, Y6, Y7, Y8, Y9, Y10, Y11, List.getElem?_cons_zero, List.getElem?_cons_succ, Option.bind_some, Option.map_some, id_eq, List.set_cons_zero, List.set_cons_succ, Bool.not_true, Bool.not_false, decide_true, decide_false, Nat.zero_le, Nat.zero_add, Int.toNat_zero, Int.toNat_one, Nat.reduceSub, Nat.reduceAdd, Nat.reduceLeDiff, Int.reduceEq, Int.reduceLT, Int.reduceLE, Int.reduceNeg, Int.reduceAdd, Int.reduceSub, Int.reduceToNat, z0, hm, show decide ((xs.length : Int) ≤ (at_ : Int) + (j : Int)) = true from decide_eq_true (by omega)]
        exact ⟨by rw [hT _ hr.symm], rfl⟩
    · rintro env M' ⟨n, s, x4, x5, rfl, rfl, hs, hr⟩
      exact ⟨n, s, x4, x5, rfl, rfl, hr.symm⟩
  · rintro env M' ⟨n, s, x4, x5, rfl, rfl, hr⟩
    simp only [List.length_map, List.length_cons, List.length_nil, List.length_append, Y0, Y1, Y2, Y3, Y4, Y5, Y6, Y7, Y8, Y9, Y10, Y11, List.getElem?_cons_zero, List.getElem?_cons_succ, Option.bind_some, Option.map_some, id_eq, List.set_cons_zero, List.set_cons_succ, Bool.not_true, Bool.not_false, decide_true, decide_false, Nat.zero_le, Nat.zero_add, Int.toNat_zero, Int.toNat_one, Nat.reduceSub, Nat.reduceAdd, Nat.reduceLeDiff, Int.reduceEq, Int.reduceLT, Int.reduceLE, Int.reduceNeg, Int.reduceAdd, Int.reduceSub, Int.reduceToNat]
    exact ⟨by rw [hT _ hr], rfl⟩
theorem rnT_plain (xs : List Int) (at_ : Nat) : plainD (rnT xs at_) = true ∧ depD (rnT xs at_) ≤ 1 := by
  unfold rnT
  cases rn xs at_ <;> exact ⟨rfl, Nat.le_refl _⟩
end
end Py


set_option Elab.async false
set_option autoImplicit false
set_option linter.all false
set_option maxRecDepth 100000
set_option maxHeartbeats 4000000
/-! P10: schemas as typed data. -/
namespace Py
open PySem L2
/-- a part: a name, a leaf -/
inductive Pt where
  | nm (s : List Nat)
  | lf (l : Leaf)
def Pt.d : Pt → D
  | .nm s => .str s
  | .lf l => l.d
inductive Mode where
  | req | opt | dfl (v : D)
abbrev sReq : List Nat := [114, 101, 113, 117, 105, 114, 101, 100]
abbrev sOpt : List Nat := [111, 112, 116, 105, 111, 110, 97, 108]
abbrev sDfl : List Nat := [100, 101, 102, 97, 117, 108, 116]
abbrev sList : List Nat := [108, 105, 115, 116]
abbrev sRec : List Nat := [114, 101, 99, 111, 114, 100]
abbrev sUni : List Nat := [117, 110, 105, 111, 110]
structure Fd where
  id : Int
  pt : Pt
  mode : Mode
def Fd.d (f : Fd) : D := match f.mode with
  | .req => .tup [.int f.id, f.pt.d, .str sReq, .non]
  | .opt => .tup [.int f.id, f.pt.d, .str sOpt, .non]
  | .dfl v => .tup [.int f.id, f.pt.d, .str sDfl, v]
structure Cs where
  id : Int
  pt : Pt
def Cs.d (c : Cs) : D := .tup [.int c.id, c.pt.d]
inductive Body where
  | lst (p : Pt) (lo hi : Int)
  | rcd (fs : List Fd) (ret : List Int)
  | uni (cs : List Cs) (ret : List Int) (op : Bool)
def Body.d : Body → D
  | .lst p lo hi => .tup [.str sList, p.d, .int lo, .int hi]
  | .rcd fs ret => .tup [.str sRec, .tup (fs.map Fd.d), .tup (ret.map D.int)]
  | .uni cs ret op => .tup [.str sUni, .tup (cs.map Cs.d), .tup (ret.map D.int), .bl op]
abbrev Df : Type := List Nat × Body
def dfD (p : Df) : D := .tup [.str p.1, p.2.d]
structure Sch where
  root : List Nat
  defs : List Df
def Sch.d (s : Sch) : D := .tup [.str s.root, .tup (s.defs.map dfD)]
end Py

set_option Elab.async false
set_option autoImplicit false
set_option linter.all false
set_option maxRecDepth 100000
set_option maxHeartbeats 4000000
/-! P11: how schemas are drawn. -/
namespace Py
open PySem L2
structure LibD (p : Prog) : Prop extends LibW p where
  h34 : p.fn 34 = some f34_law_part
  h35 : p.fn 35 = some f35_law_list_body
  h510 : p.fn 510 = some f510_law_record_body
  h37 : p.fn 37 = some f37_law_union_body
  h511 : p.fn 511 = some f511_law_schema
abbrev strsD (ns : List (List Nat)) : List D := ns.map D.str
/-- a part over these names -/
def Pt.good (names : List (List Nat)) : Pt → Prop
  | .nm s => s ∈ names
  | .lf l => l.ok = true ∧ l.sz ≤ 6
/-- a leaf, a later name -/
def Pt.safe (later : List (List Nat)) : Pt → Bool
  | .nm s => later.contains s
  | .lf _ => true
def Pt.isNm : Pt → Bool
  | .nm _ => true
  | .lf _ => false
def Leaf.isCho : Leaf → Bool
  | .cho .. => true
  | _ => false
def Fd.reqNm (f : Fd) : Bool := match f.mode with
  | .req => f.pt.isNm
  | _ => false
def Fd.good (names later : List (List Nat)) (f : Fd) : Prop := f.pt.good names ∧ match f.mode with
  | .req => f.pt.safe later = true
  | .opt => True
  | .dfl v => ∃ l, f.pt = .lf l ∧ l.isCho = false ∧ SV v ∧ leafV l v = true
def Body.good (names later : List (List Nat)) : Body → Prop
  | .lst pt lo hi => pt.good names ∧ 0 ≤ lo ∧ lo ≤ hi ∧ hi ≤ 99 ∧ 1 ≤ hi ∧ lo ≤ 2 ∧ (lo ≠ 0 → pt.safe later = true) ∧ (pt.isNm = true → lo ≤ 1)
  | .rcd fs ret => ascB 0 (fs.map Fd.id) = true ∧ ascB 0 ret = true ∧ (fs.map Fd.id).any ret.contains = false ∧ fs.length + ret.length ≤ 6 ∧ (∀ f ∈ fs, f.good names later) ∧ (fs.filter Fd.reqNm).length ≤ 1
  | .uni cs ret op => ascB 0 (cs.map Cs.id) = true ∧ ascB 0 ret = true ∧ (cs.map Cs.id).any ret.contains = false ∧ cs.length + ret.length ≤ 6 ∧ (∀ c ∈ cs, c.pt.good names) ∧ (op = true ∨ (ret = [] ∧ ∃ c ∈ cs, c.pt.safe later = true))
theorem Pt.bel {n : Nat} (pt : Pt) : bel n pt.d = true := by
  cases pt with
  | nm s => rfl
  | lf l => exact l.bel
theorem get_app {A B : Mem} {m : Nat} {o : MO} (h : A[m]? = some o) : (A ++ B)[m]? = some o := by rw [List.getElem?_append_left (lt_of_get h)]; exact h
theorem bels_str {n : Nat} : ∀ ns : List (List Nat), bels n (ns.map D.str) = true
  | [] => rfl
  | _ :: ns => bels_str ns
theorem bels_map {α : Type} {f : α → D} {n : Nat} : ∀ {xs : List α}, (∀ x ∈ xs, bel n (f x) = true) → bels n (xs.map f) = true
  | [], _ => rfl
  | x :: xs, h => by
    show (Py.bel n (f x) && bels n (xs.map f)) = true
    rw [h x List.mem_cons_self, bels_map fun y hy => h y (List.mem_cons_of_mem _ hy)]; rfl
/-- a mode's data holds nothing changeable -/
def Mode.flat : Mode → Prop
  | .dfl v => SV v ∧ ∃ l, leafV l v = true
  | _ => True
theorem Fd.bel {n : Nat} (f : Fd) (h : f.mode.flat) : bel n f.d = true := by
  obtain ⟨i, pt, md⟩ := f
  cases md with
  | req => show (true && (Py.bel n pt.d && (true && (true && true)))) = true; rw [pt.bel]; rfl
  | opt => show (true && (Py.bel n pt.d && (true && (true && true)))) = true; rw [pt.bel]; rfl
  | dfl v =>
    obtain ⟨h1, l, h2⟩ := h
    show (true && (Py.bel n pt.d && (true && (Py.bel n v && true)))) = true
    rw [pt.bel, h1.bel l h2]; rfl
theorem Fd.good.flat {names later : List (List Nat)} {f : Fd} (h : f.good names later) : f.mode.flat := by
  obtain ⟨i, pt, md⟩ := f
  cases md with
  | req => trivial
  | opt => trivial
  | dfl v => obtain ⟨l, _, _, h1, h2⟩ := h.2; exact ⟨h1, l, h2⟩
theorem Body.good.bel {n : Nat} {names later : List (List Nat)} {b : Body} (h : b.good names later) : bel n b.d = true := by
  cases b with
  | lst pt lo hi => show (true && (Py.bel n pt.d && (true && (true && true)))) = true; rw [pt.bel]; rfl
  | rcd fs ret =>
    show (true && (bels n (fs.map Fd.d) && (bels n (ret.map D.int) && true))) = true
    rw [bels_int, bels_map fun f hf => f.bel (h.2.2.2.2.1 f hf).flat]; rfl
  | uni cs ret op =>
    show (true && (bels n (cs.map Cs.d) && (bels n (ret.map D.int) && (true && true)))) = true
    rw [bels_int, bels_map fun (c : Cs) hc => by
      show (true && (Py.bel n c.pt.d && true)) = true
      rw [c.pt.bel]; rfl]; rfl
section
variable {p : Prog} {k : Nat} {M : Mem}
theorem run_part (L : LibD p) {n r m : Nat} {names : List (List Nat)} (h : Draws M n r) (hm : M[m]? = some (.lst (strsD names))) (hmn : m ≠ n) (hne : names ≠ []) :
    Ok (run p (k + 4) 34 [.obj n, .obj m] M) (DrawnF M n r fun d => ∃ pt : Pt, d = pt.d ∧ pt.good names) := by
  refine run_drawn L.h34 rfl h (fun d ⟨pt, e, _⟩ => by subst e; exact pt.bel) ?_
  unfold f34_law_part
  obtain ⟨c, M1, e1, c0, c1, hd1, hk1⟩ := run_next0 (k := k + 2) L.toLib0 h (show (0 : Int) < 3 by decide)
  by_cases hc : c = 1
  · have hm1 := hk1.get hm hmn
    have hpos := List.length_pos_iff.mpr hne
    obtain ⟨j, M2, e2, j0, j1, hd2, hk2⟩ := run_next0 (k := k + 2) L.toLib0 hd1 (show (0 : Int) < (names.length : Int) by omega)
    have hm2 := hk2.get hm1 hmn
    have hj : j.toNat < names.length := by omega
    have hg : (strsD names)[j.toNat]? = some (.str names[j.toNat]) := by rw [List.getElem?_map, List.getElem?_eq_getElem hj]; rfl
    simp only [List.length_map, List.length_cons, List.length_nil, List.length_append, Y0, Y1, Y2, Y3, Y4, Y5, Y6, Y7, Y8, Y9, Y10, Y11, List.getElem?_cons_zero, List.getElem?_cons_succ, Option.bind_some, Option.map_some, id_eq, List.set_cons_zero, List.set_cons_succ, Bool.not_true, Bool.not_false, decide_true, decide_false, Nat.zero_le, Nat.zero_add, Int.toNat_zero, Int.toNat_one, Nat.reduceSub, Nat.reduceAdd, Nat.reduceLeDiff, Int.reduceEq, Int.reduceLT, Int.reduceLE, Int.reduceNeg, Int.reduceAdd, Int.reduceSub, Int.reduceToNat, e1, hc, hm1, e2, hm2, at_lt (zs := strsD names) j0 (by rw [ml_map]; exact j1), hg]
    exact ⟨M2, [], ma_nil'.symm, ⟨.nm _, rfl, List.getElem_mem hj⟩, hd2, hk1.trans hk2⟩
  · obtain ⟨_, M2, e2, ⟨l, rfl, hl, hs⟩, hd2, hk2⟩ := (run_leafS (k := k) L.toLibL hd1).dr0
    simp only [List.length_map, List.length_cons, List.length_nil, List.length_append, Y0, Y1, Y2, Y3, Y4, Y5, Y6, Y7, Y8, Y9, Y10, Y11, List.getElem?_cons_zero, List.getElem?_cons_succ, Option.bind_some, Option.map_some, id_eq, List.set_cons_zero, List.set_cons_succ, Bool.not_true, Bool.not_false, decide_true, decide_false, Nat.zero_le, Nat.zero_add, Int.toNat_zero, Int.toNat_one, Nat.reduceSub, Nat.reduceAdd, Nat.reduceLeDiff, Int.reduceEq, Int.reduceLT, Int.reduceLE, Int.reduceNeg, Int.reduceAdd, Int.reduceSub, Int.reduceToNat, e1, hc, e2]
    exact ⟨M2, [], ma_nil'.symm, ⟨.lf l, rfl, hl, hs⟩, hd2, hk1.trans hk2⟩
theorem run_list_body (L : LibD p) {n r m m2 : Nat} {names later : List (List Nat)} (h : Draws M n r) (hm : M[m]? = some (.lst (strsD names))) (hmn : m ≠ n) (hm2 : M[m2]? = some (.lst (strsD later))) (hmn2 : m2 ≠ n) (hne : names ≠ [])
    (ok1 : ∀ s ∈ names, nmOk s = true) (ok2 : ∀ s ∈ later, nmOk s = true) :
    Ok (run p (k + 5) 35 [.obj n, .obj m, .obj m2] M) (DrawnF M n r fun d => ∃ b : Body, d = b.d ∧ b.good names later) := by
  refine run_drawn L.h35 rfl h (fun d ⟨b, e, g⟩ => by subst e; exact g.bel) ?_
  unfold f35_law_list_body
  simp only [List.length_map, List.length_cons, List.length_nil, List.length_append, Y0, Y1, Y2, Y3, Y4, Y5, Y6, Y7, Y8, Y9, Y10, Y11, List.getElem?_cons_zero, List.getElem?_cons_succ, Option.bind_some, Option.map_some, id_eq, List.set_cons_zero, List.set_cons_succ, Bool.not_true, Bool.not_false, decide_true, decide_false, Nat.zero_le, Nat.zero_add, Int.toNat_zero, Int.toNat_one, Nat.reduceSub, Nat.reduceAdd, Nat.reduceLeDiff, Int.reduceEq, Int.reduceLT, Int.reduceLE, Int.reduceNeg, Int.reduceAdd, Int.reduceSub, Int.reduceToNat]
  refine seq_ok (fun env M' => ∃ (pt : Pt) (lo : Int), env = [some (.obj n), some (.obj m), some (.obj m2), some (.int lo), some pt.d, none] ∧ pt.good names ∧ 0 ≤ lo ∧ lo ≤ 2 ∧ (lo ≠ 0 → pt.safe later = true) ∧ (pt.isNm = true → lo ≤ 1) ∧ Draws M' n r ∧ Adv n M M') ?_ ?_
  · obtain ⟨c, M1, e1, c0, c1, hd1, hk1⟩ := run_next0 (k := k + 3) L.toLib0 h (show (0 : Int) < 2 by decide)
    by_cases hc : c = 1
    · have hm1 := hk1.get hm hmn
      have hpos := List.length_pos_iff.mpr hne
      obtain ⟨j, M2, e2, j0, j1, hd2, hk2⟩ := run_next0 (k := k + 3) L.toLib0 hd1 (show (0 : Int) < (names.length : Int) by omega)
      have hm3 := hk2.get hm1 hmn
      have hj : j.toNat < names.length := by omega
      have hg : (strsD names)[j.toNat]? = some (.str names[j.toNat]) := by rw [List.getElem?_map, List.getElem?_eq_getElem hj]; rfl
      have hl2 := (hk1.trans hk2).get hm2 hmn2
      have hin := in_strsL hl2 ok2 (ok1 _ (List.getElem_mem hj))
      cases hb : later.contains names[j.toNat] with
      | true =>
        obtain ⟨lo, M3, e3, l0, l1, hd3, hk3⟩ := run_next0 (k := k + 3) L.toLib0 hd2 (show (0 : Int) < 2 by decide)
        simp only [List.length_map, List.length_cons, List.length_nil, List.length_append, Y0, Y1, Y2, Y3, Y4, Y5, Y6, Y7, Y8, Y9, Y10, Y11, List.getElem?_cons_zero, List.getElem?_cons_succ, Option.bind_some, Option.map_some, id_eq, List.set_cons_zero, List.set_cons_succ, Bool.not_true, Bool.not_false, decide_true, decide_false, Nat.zero_le, Nat.zero_add, Int.toNat_zero, Int.toNat_one, Nat.reduceSub, Nat.reduceAdd, Nat.reduceLeDiff, Int.reduceEq, Int.reduceLT, Int.reduceLE, Int.reduceNeg, Int.reduceAdd, Int.reduceSub, Int.reduceToNat, e1, hc, hm1, e2, hm3, at_lt (zs := strsD names) j0 (by rw [ml_map]; exact j1), hg, hin, hb, e3]
        exact ⟨.nm names[j.toNat], lo, rfl, List.getElem_mem hj, l0, by omega, fun _ => hb, fun _ => by omega, hd3, hk1.trans (hk2.trans hk3)⟩
      | false =>
        simp only [List.length_map, List.length_cons, List.length_nil, List.length_append, Y0, Y1, Y2, Y3, Y4, Y5, Y6, Y7, Y8, Y9, Y10, Y11, List.getElem?_cons_zero, List.getElem?_cons_succ, Option.bind_some, Option.map_some, id_eq, List.set_cons_zero, List.set_cons_succ, Bool.not_true, Bool.not_false, decide_true, decide_false, Nat.zero_le, Nat.zero_add, Int.toNat_zero, Int.toNat_one, Nat.reduceSub, Nat.reduceAdd, Nat.reduceLeDiff, Int.reduceEq, Int.reduceLT, Int.reduceLE, Int.reduceNeg, Int.reduceAdd, Int.reduceSub, Int.reduceToNat, e1, hc, hm1, e2, hm3, at_lt (zs := strsD names) j0 (by rw [ml_map]; exact j1), hg, hin, hb]
        exact ⟨.nm names[j.toNat], 0, rfl, List.getElem_mem hj, by decide, by decide, fun z => absurd rfl z, fun _ => by decide, hd2, hk1.trans hk2⟩
    · obtain ⟨_, M2, e2, ⟨l, rfl, hl, hs⟩, hd2, hk2⟩ := (run_leafS (k := k + 1) L.toLibL hd1).dr0
      obtain ⟨lo, M3, e3, l0, l1, hd3, hk3⟩ := run_next0 (k := k + 3) L.toLib0 hd2 (show (0 : Int) < 3 by decide)
      simp only [List.length_map, List.length_cons, List.length_nil, List.length_append, Y0, Y1, Y2, Y3, Y4, Y5, Y6, Y7, Y8, Y9, Y10, Y11, List.getElem?_cons_zero, List.getElem?_cons_succ, Option.bind_some, Option.map_some, id_eq, List.set_cons_zero, List.set_cons_succ, Bool.not_true, Bool.not_false, decide_true, decide_false, Nat.zero_le, Nat.zero_add, Int.toNat_zero, Int.toNat_one, Nat.reduceSub, Nat.reduceAdd, Nat.reduceLeDiff, Int.reduceEq, Int.reduceLT, Int.reduceLE, Int.reduceNeg, Int.reduceAdd, Int.reduceSub, Int.reduceToNat, e1, hc, e2, e3]
      exact ⟨.lf l, lo, rfl, ⟨hl, hs⟩, l0, by omega, fun _ => rfl, (fun z => nomatch z), hd3, hk1.trans (hk2.trans hk3)⟩
  · rintro env M1 ⟨pt, lo, rfl, g1, g2, g3, g4, g5, hd1, hk1⟩
    obtain ⟨c, M2, e2, c0, c1, hd2, hk2⟩ := run_next0 (k := k + 3) L.toLib0 hd1 (show (0 : Int) < 4 by decide)
    obtain ⟨y, M3, e3, y0, y1, hd3, hk3⟩ := run_next0 (k := k + 3) L.toLib0 hd2 (show (0 : Int) < 9 by decide)
    by_cases hy : y = 1
    · simp only [List.length_map, List.length_cons, List.length_nil, List.length_append, Y0, Y1, Y2, Y3, Y4, Y5, Y6, Y7, Y8, Y9, Y10, Y11, List.getElem?_cons_zero, List.getElem?_cons_succ, Option.bind_some, Option.map_some, id_eq, List.set_cons_zero, List.set_cons_succ, Bool.not_true, Bool.not_false, decide_true, decide_false, Nat.zero_le, Nat.zero_add, Int.toNat_zero, Int.toNat_one, Nat.reduceSub, Nat.reduceAdd, Nat.reduceLeDiff, Int.reduceEq, Int.reduceLT, Int.reduceLE, Int.reduceNeg, Int.reduceAdd, Int.reduceSub, Int.reduceToNat, e2, e3, hy]
      exact ⟨M3, [], ma_nil'.symm, ⟨.lst pt lo 99, rfl, g1, g2, by omega, by decide, by decide, g3, g4, g5⟩, hd3, hk1.trans (hk2.trans hk3)⟩
    · simp only [List.length_map, List.length_cons, List.length_nil, List.length_append, Y0, Y1, Y2, Y3, Y4, Y5, Y6, Y7, Y8, Y9, Y10, Y11, List.getElem?_cons_zero, List.getElem?_cons_succ, Option.bind_some, Option.map_some, id_eq, List.set_cons_zero, List.set_cons_succ, Bool.not_true, Bool.not_false, decide_true, decide_false, Nat.zero_le, Nat.zero_add, Int.toNat_zero, Int.toNat_one, Nat.reduceSub, Nat.reduceAdd, Nat.reduceLeDiff, Int.reduceEq, Int.reduceLT, Int.reduceLE, Int.reduceNeg, Int.reduceAdd, Int.reduceSub, Int.reduceToNat, e2, e3, hy]
      refine ⟨M3, [], ma_nil'.symm, ⟨.lst pt lo (if lo + c > 1 then lo + c else 1), rfl, g1, g2, ?_, ?_, ?_, g3, g4, g5⟩, hd3, hk1.trans (hk2.trans hk3)⟩ <;> split <;> omega
/-- ids drawn and parted: the four lists that are made, where they lie -/
theorem run_parted (L : LibD p) {n r : Nat} (h : Draws M n r) : ∃ (ns live ret : List Int) (A1 A2 : Mem), run p (k + 2) 8 [.obj n, .int 4] M = .ok (.obj M.length) (A1 ++ [.lst (ns.map D.int)]) ∧ A1.length = M.length ∧
    run p (k + 2) 9 [.obj n, .obj M.length] (A1 ++ [.lst (ns.map D.int)]) = .ok (.obj (M.length + 3)) (A2 ++ [.lst (ns.map D.int), .lst (live.map D.int), .lst (ret.map D.int), .lst [.obj (M.length + 1), .obj (M.length + 2)]]) ∧
    ascB 0 live = true ∧ ascB 0 ret = true ∧ live.any ret.contains = false ∧ live.length + ret.length ≤ 6 ∧ Draws A2 n r ∧ Adv n M A2 := by
  have hn := h.lt
  obtain ⟨ns, M2, e2, ha, hl, hd2, hk2⟩ := run_ids (k := k) L.toLibL h (most := 4) (by decide)
  have l2 := hk2.len
  obtain ⟨live, ret, A3, e3, al, ar, dj, sz, hd3, hk3⟩ := run_split (k := k) L.toLibL (hd2.app [.lst (ns.map D.int)]) (ga0 l2) (by omega) ha (by omega)
  obtain ⟨M3, rfl, hd3, hk3⟩ := adv_app hd2 hd3 hk3
  have l3 := hk3.len
  simp only [ma_assoc, ma_cons, ma_nil, ma_len, ma_lcons, ma_lnil, l2, Nat.zero_add] at e3
  exact ⟨ns, live, ret, M2, M3, e2, l2, e3, al, ar, dj, by omega, hd3, hk2.trans hk3⟩
end
end Py

set_option Elab.async false
set_option autoImplicit false
set_option linter.all false
set_option maxRecDepth 100000
set_option maxHeartbeats 4000000
/-! Q09: the law of reading any octets. -/
namespace Py
open PySem L2
structure Lib09 (p : Prog) : Prop extends Lib0 p, LibM p, LibO p where
  h110 : p.fn 110 = some f110_law_read_number
  h743 : p.fn 743 = some f743_law
section
variable {p : Prog} {k : Nat} {M : Mem}
theorem run_law9 (L : Lib09 p) (ns : List Int) : ∃ M, run p 12 743 [.rol (ns.map D.int)] [] = .ok (.bl true) M := by
  refine run_true L.h743 rfl ?_
  unfold f743_law
  have hsz := sizeL
  have hbg : big = 4611686018427387904 := rfl
  generalize hT : Ss.cons (S.set (Tg.name 4) _) _ = T
  have fin : ∀ (x2 x7 : Option D) (n r j : Nat) (xs : List Int) (M : Mem), M[j]? = some (.lst (xs.map D.int)) → j ≠ n → xs.length ≤ 1000 → Draws M n r →
      OkS (evSs ⟨run p 11, p.gl⟩ T [some (.rol (ns.map D.int)), some (.obj n), x2, some (.obj j), none, none, none, x7] M) (fnEnd fun d _ => d = .bl true) := fun x2 x7 n r j xs M hj hjn hl hd => by
    rw [← hT]
    obtain ⟨c, M1, e1, c0, c1, hd1, hk1⟩ := run_next0 (k := 10) L.toLib0 hd (show (0 : Int) < (xs.length : Int) + 1 by omega)
    obtain ⟨c2, M2, e2, c20, c21, hd2, hk2⟩ := run_next0 (k := 10) L.toLib0 hd1 (show (0 : Int) < 2 by decide)
    have hj1 := hk1.get hj hjn
    have hj2 := hk2.get hj1 hjn
    obtain ⟨cn, rfl⟩ := Int.eq_ofNat_of_zero_le c0
    have go : ∀ at_ : Nat, at_ ≤ xs.length → run p 11 741 [.obj j, .int at_] (M2 ++ [.lst (xs.map D.int)]) = .ok (rnT xs at_) (M2 ++ [.lst (xs.map D.int)]) ∧ run p 11 110 [.obj M2.length, .int at_] (M2 ++ [.lst (xs.map D.int)]) = .ok (rnT xs at_) (M2 ++ [.lst (xs.map D.int)]) ∧ run p 11 28 [rnT xs at_, rnT xs at_] (M2 ++ [.lst (xs.map D.int)]) = .ok (.bl true) (M2 ++ [.lst (xs.map D.int)]) := fun at_ ha => by
      have hx : (M2 ++ [MO.lst (xs.map D.int)])[j]? = some (.lst (xs.map D.int)) := get_app hj2
      have hy : (M2 ++ [MO.lst (xs.map D.int)])[M2.length]? = some (.lst (xs.map D.int)) := get_new
      obtain ⟨p1, p2⟩ := rnT_plain xs at_
      have e := run_same (k := 9) L.toLibM 1 (rnT xs at_) (rnT xs at_) (M2 ++ [.lst (xs.map D.int)]) p1 p1 p2
      rw [sameD_refl _ p1] at e
      exact ⟨run_try (k := 9) L.toLibO hx at_ ha (by omega), run_law_read (k := 10) L.h110 hy at_ ha (by omega), e⟩
    have heq : opCmp .eq (.obj j) (.obj M2.length) (M2 ++ [MO.lst (xs.map D.int)]) = some true := by
      rw [eq_lists (get_app hj2) get_new, decide_eq_true rfl]
    by_cases hc : c2 = 1
    · subst hc
      obtain ⟨g1, g2, g3⟩ := go 0 (Nat.zero_le _)
      have g1 : run p 11 741 [.obj j, .int 0] (M2 ++ [.lst (xs.map D.int)]) = .ok (rnT xs 0) (M2 ++ [.lst (xs.map D.int)]) := g1
      have g2 : run p 11 110 [.obj M2.length, .int 0] (M2 ++ [.lst (xs.map D.int)]) = .ok (rnT xs 0) (M2 ++ [.lst (xs.map D.int)]) := g2
      simp only [List.length_map, List.length_cons, List.length_nil, List.length_append, Y0, Y1, Y2, Y3, Y4, Y5, Y6, Y7, Y8, Y9, Y10, Y11, List.getElem?_cons_zero, List.getElem?_cons_succ, Option.bind_some, Option.map_some, id_eq, List.set_cons_zero, List.set_cons_succ, Bool.not_true, Bool.not_false, decide_true, decide_false, Nat.zero_le, Nat.zero_add, Int.toNat_zero, Int.toNat_one, Nat.reduceSub, Nat.reduceAdd, Nat.reduceLeDiff, Int.reduceEq, Int.reduceLT, Int.reduceLE, Int.reduceNeg, Int.reduceAdd, Int.reduceSub, Int.reduceToNat, hj, e1, e2, hj2, g1, heq, g2, g3]
      rfl
    · obtain ⟨g1, g2, g3⟩ := go cn (by omega)
      simp only [List.length_map, List.length_cons, List.length_nil, List.length_append, Y0, Y1, Y2, Y3, Y4, Y5, Y6, Y7, Y8, Y9, Y10, Y11, List.getElem?_cons_zero, List.getElem?_cons_succ, Option.bind_some, Option.map_some, id_eq, List.set_cons_zero, List.set_cons_succ, Bool.not_true, Bool.not_false, decide_true, decide_false, Nat.zero_le, Nat.zero_add, Int.toNat_zero, Int.toNat_one, Nat.reduceSub, Nat.reduceAdd, Nat.reduceLeDiff, Int.reduceEq, Int.reduceLT, Int.reduceLE, Int.reduceNeg, Int.reduceAdd, Int.reduceSub, Int.reduceToNat, hj, e1, e2, decide_eq_false hc, hj2, g1, heq, g2, g3]
      rfl
  obtain ⟨z0, e0⟩ := run_cell (k := 10) (M := []) L.toLib0 ns 0
  have e0 : run p 11 3 [.rol (ns.map D.int), .int 0] [] = .ok (.int z0) [] := e0
  obtain ⟨_, M1, e1, n, r, rfl, hd1, hn1, hr1, hk1⟩ := (run_draws (k := 10) (M := []) L.toLib0 z0).get
  obtain ⟨c, M2, e2, c0, c1, hd2, hk2⟩ := run_next0 (k := 10) L.toLib0 hd1 (show (0 : Int) < 126 by decide)
  have hnl := hd1.lt
  have hl2 : M2.length = M1.length := hk2.len
  obtain ⟨c3, M3, e3, c30, c31, hd3, hk3⟩ := run_next (k := 10) L.toLib0 hd2 (show (0 : Int) < 15 by decide) [.lst [.int 0, .int (1 + c), .int 127, .int 128, .int 128, .int 255, .int 129, .int 200]]
  have hl3 : M3.length = M1.length := hk3.len.trans hl2
  have hmenu : ∀ z : Int, 0 ≤ z → z < 8 → ∃ v : Int, atI [D.int 0, .int (1 + c), .int 127, .int 128, .int 128, .int 255, .int 129, .int 200] z = some (.int v) := fun z h0 h1 => by
    have : z = 0 ∨ z = 1 ∨ z = 2 ∨ z = 3 ∨ z = 4 ∨ z = 5 ∨ z = 6 ∨ z = 7 := by omega
    rcases this with rfl | rfl | rfl | rfl | rfl | rfl | rfl | rfl <;> exact ⟨_, rfl⟩
  simp only [List.length_map, List.length_cons, List.length_nil, List.length_append, Y0, Y1, Y2, Y3, Y4, Y5, Y6, Y7, Y8, Y9, Y10, Y11, List.getElem?_cons_zero, List.getElem?_cons_succ, Option.bind_some, Option.map_some, id_eq, List.set_cons_zero, List.set_cons_succ, Bool.not_true, Bool.not_false, decide_true, decide_false, Nat.zero_le, Nat.zero_add, Int.toNat_zero, Int.toNat_one, Nat.reduceSub, Nat.reduceAdd, Nat.reduceLeDiff, Int.reduceEq, Int.reduceLT, Int.reduceLE, Int.reduceNeg, Int.reduceAdd, Int.reduceSub, Int.reduceToNat, e0, e1, e2, hl2, e3, if_pos (show -big ≤ c3 ∧ c3 < big by omega)]
  generalize hR : lcSeq _ _ _ _ = R
  generalize hmn : [D.int 0, D.int (1 + c), D.int 127, D.int 128, D.int 128, D.int 255, D.int 129, D.int 200] = menu at *
  obtain ⟨ys, M4, e7, hl4, A, qs, rfl, rfl, hql, hA, hdA⟩ : ∃ ys' A', R = .ok () (A' ++ [.lst ys']) ∧ A'.length = M3.length + 1 ∧ ∃ (A : Mem) (qs : List Int), A' = A ++ [.lst menu] ∧ ys' = qs.map D.int ∧ qs.length + ([] : List D).length ≤ 15 ∧ A.length = M1.length ∧ Draws A n r := by
    rw [← hR, show M3 ++ [MO.lst menu, MO.lst []] = (M3 ++ [MO.lst menu]) ++ [MO.lst []] by simp]
    refine lc_adv (N := M3.length + 1) (xs := rngD 0 c3) (ys := []) (A := M3 ++ [.lst menu]) (fun ds ys A' => ∃ (A : Mem) (qs : List Int), A' = A ++ [.lst menu] ∧ ys = qs.map D.int ∧ qs.length + ds.length ≤ 15 ∧ A.length = M1.length ∧ Draws A n r) (by simp) ⟨M3, [], rfl, rfl, by simp [rngD]; omega, hl3, hd3⟩ (by simp [rngD]; omega) ?_
    rintro d ds' ys A' ⟨A, qs, rfl, rfl, hql, hA, hdA⟩ hA'
    obtain ⟨z, A2, f1, z0, z1, hdB, hkB⟩ := run_next (k := 10) L.toLib0 hdA (show (0 : Int) < 8 by decide) [.lst menu, .lst (qs.map D.int)]
    have hB : A2.length = M1.length := hkB.len.trans hA
    obtain ⟨v, hv⟩ := hmenu z z0 z1
    unfold xTurn
    simp only [List.length_map, List.length_cons, List.length_nil, List.length_append, Y0, Y1, Y2, Y3, Y4, Y5, Y6, Y7, Y8, Y9, Y10, Y11, List.getElem?_cons_zero, List.getElem?_cons_succ, Option.bind_some, Option.map_some, id_eq, List.set_cons_zero, List.set_cons_succ, Bool.not_true, Bool.not_false, decide_true, decide_false, Nat.zero_le, Nat.zero_add, Int.toNat_zero, Int.toNat_one, Nat.reduceSub, Nat.reduceAdd, Nat.reduceLeDiff, Int.reduceEq, Int.reduceLT, Int.reduceLE, Int.reduceNeg, Int.reduceAdd, Int.reduceSub, Int.reduceToNat, f1, hB, hv]
    exact ⟨some (.int v), A2 ++ [.lst menu], by simp, by simp [hB, hl3], A2, qs ++ [v], rfl, by simp, by simp only [List.length_cons] at hql; simp; omega, hB, hdB⟩
  simp only [List.length_nil, Nat.add_zero] at hql
  simp only [List.length_map, List.length_cons, List.length_nil, List.length_append, Y0, Y1, Y2, Y3, Y4, Y5, Y6, Y7, Y8, Y9, Y10, Y11, List.getElem?_cons_zero, List.getElem?_cons_succ, Option.bind_some, Option.map_some, id_eq, List.set_cons_zero, List.set_cons_succ, Bool.not_true, Bool.not_false, decide_true, decide_false, Nat.zero_le, Nat.zero_add, Int.toNat_zero, Int.toNat_one, Nat.reduceSub, Nat.reduceAdd, Nat.reduceLeDiff, Int.reduceEq, Int.reduceLT, Int.reduceLE, Int.reduceNeg, Int.reduceAdd, Int.reduceSub, Int.reduceToNat, e7]
  have hnA := hdA.lt
  obtain ⟨c4, A2, e8, c40, c41, hd5, hk5⟩ := run_next (k := 10) L.toLib0 hdA (show (0 : Int) < 3 by decide) [.lst menu, .lst (qs.map D.int)]
  have hA2 : A2.length = M1.length := hk5.len.trans hA
  by_cases hc : c4 = 1
  · subst hc
    obtain ⟨c5, A3, e9, c50, c51, hd6, hk6⟩ := run_next (k := 10) L.toLib0 hd5 (show (0 : Int) < 11 by decide) [.lst menu, .lst (qs.map D.int)]
    have hA3 : A3.length = M1.length := hk6.len.trans hA2
    simp only [List.length_map, List.length_cons, List.length_nil, List.length_append, Y0, Y1, Y2, Y3, Y4, Y5, Y6, Y7, Y8, Y9, Y10, Y11, List.getElem?_cons_zero, List.getElem?_cons_succ, Option.bind_some, Option.map_some, id_eq, List.set_cons_zero, List.set_cons_succ, Bool.not_true, Bool.not_false, decide_true, decide_false, Nat.zero_le, Nat.zero_add, Int.toNat_zero, Int.toNat_one, Nat.reduceSub, Nat.reduceAdd, Nat.reduceLeDiff, Int.reduceEq, Int.reduceLT, Int.reduceLE, Int.reduceNeg, Int.reduceAdd, Int.reduceSub, Int.reduceToNat, hA, hl3, e8, e9, if_pos (show -big ≤ c5 ∧ c5 < big by omega)]
    generalize hR2 : lcSeq _ _ _ _ = R2
    obtain ⟨ys2, M5, e10, hl5, B, rs, rfl, rfl, hrl, hB, hdB⟩ : ∃ ys' A', R2 = .ok () (A' ++ [.lst ys']) ∧ A'.length = A3.length + 2 ∧ ∃ (A : Mem) (rs : List Int), A' = A ++ [.lst menu, .lst (qs.map D.int)] ∧ ys' = rs.map D.int ∧ rs.length + ([] : List D).length ≤ 11 ∧ A.length = M1.length ∧ Draws A n r := by
      rw [← hR2, show A3 ++ [MO.lst menu, MO.lst (qs.map D.int), MO.lst []] = (A3 ++ [MO.lst menu, MO.lst (qs.map D.int)]) ++ [MO.lst []] by simp]
      refine lc_adv (N := A3.length + 2) (xs := rngD 0 c5) (ys := []) (A := A3 ++ [MO.lst menu, MO.lst (qs.map D.int)]) (fun ds ys A' => ∃ (A : Mem) (rs : List Int), A' = A ++ [.lst menu, .lst (qs.map D.int)] ∧ ys = rs.map D.int ∧ rs.length + ds.length ≤ 11 ∧ A.length = M1.length ∧ Draws A n r) (by simp) ⟨A3, [], rfl, rfl, by simp [rngD]; omega, hA3, hd6⟩ (by simp [rngD]; omega) ?_
      rintro d ds' ys A' ⟨A, rs, rfl, rfl, hrl, hAA, hdA'⟩ hA'
      obtain ⟨z, A4, f1, z0, z1, hdC, hkC⟩ := run_next (k := 10) L.toLib0 hdA' (show (0 : Int) < 128 by decide) [.lst menu, .lst (qs.map D.int), .lst (rs.map D.int)]
      have hC : A4.length = M1.length := hkC.len.trans hAA
      unfold xTurn
      simp only [List.length_map, List.length_cons, List.length_nil, List.length_append, Y0, Y1, Y2, Y3, Y4, Y5, Y6, Y7, Y8, Y9, Y10, Y11, List.getElem?_cons_zero, List.getElem?_cons_succ, Option.bind_some, Option.map_some, id_eq, List.set_cons_zero, List.set_cons_succ, Bool.not_true, Bool.not_false, decide_true, decide_false, Nat.zero_le, Nat.zero_add, Int.toNat_zero, Int.toNat_one, Nat.reduceSub, Nat.reduceAdd, Nat.reduceLeDiff, Int.reduceEq, Int.reduceLT, Int.reduceLE, Int.reduceNeg, Int.reduceAdd, Int.reduceSub, Int.reduceToNat, f1]
      exact ⟨some (.int (128 + z)), A4 ++ [.lst menu, .lst (qs.map D.int)], by simp, by simp [hC, hA3], A4, rs ++ [128 + z], rfl, by simp, by simp only [List.length_cons] at hrl; simp; omega, hC, hdC⟩
    simp only [List.length_nil, Nat.add_zero] at hrl
    simp only [List.length_map, List.length_cons, List.length_nil, List.length_append, Y0, Y1, Y2, Y3, Y4, Y5, Y6, Y7, Y8, Y9, Y10, Y11, List.getElem?_cons_zero, List.getElem?_cons_succ, Option.bind_some, Option.map_some, id_eq, List.set_cons_zero, List.set_cons_succ, Bool.not_true, Bool.not_false, decide_true, decide_false, Nat.zero_le, Nat.zero_add, Int.toNat_zero, Int.toNat_one, Nat.reduceSub, Nat.reduceAdd, Nat.reduceLeDiff, Int.reduceEq, Int.reduceLT, Int.reduceLE, Int.reduceNeg, Int.reduceAdd, Int.reduceSub, Int.reduceToNat, e10, hA3, hB, show rs.length + qs.length ≤ sizeLine by omega]
    have hnB := hdB.lt
    refine fin _ _ n r _ (rs ++ qs) _ ?_ ?_ (by rw [List.length_append]; omega) (hdB.app _)
    · rw [List.map_append]; exact ga3 hB
    · omega
  · simp only [List.length_map, List.length_cons, List.length_nil, List.length_append, Y0, Y1, Y2, Y3, Y4, Y5, Y6, Y7, Y8, Y9, Y10, Y11, List.getElem?_cons_zero, List.getElem?_cons_succ, Option.bind_some, Option.map_some, id_eq, List.set_cons_zero, List.set_cons_succ, Bool.not_true, Bool.not_false, decide_true, decide_false, Nat.zero_le, Nat.zero_add, Int.toNat_zero, Int.toNat_one, Nat.reduceSub, Nat.reduceAdd, Nat.reduceLeDiff, Int.reduceEq, Int.reduceLT, Int.reduceLE, Int.reduceNeg, Int.reduceAdd, Int.reduceSub, Int.reduceToNat, hA, hl3, e8, decide_eq_false hc]
    refine fin _ _ n r _ qs _ (ga1 hA2) ?_ (by omega) (hd5.app _)
    omega
end
end Py

set_option Elab.async false
set_option autoImplicit false
set_option linter.all false
set_option maxRecDepth 100000
set_option maxHeartbeats 0
/-! the law's table, its head, its end. -/
namespace Py
open PySem L2
def LT : LawT where
  top := PySem.Challenge.pw_schemabridge_k09_read_any_octets.main.body
  fns := [⟨3, 8, "_law_cell", ["_law_script", "_law_k"], ["_law_script", "_law_k"], f3_law_cell⟩,
    ⟨4, 9, "_law_draws", ["_law_cell_here"], ["_law_cell_here", "_law_row", "_law_rest", "_law_mixed", "_law_is_great", "_law_k"], f4_law_draws⟩,
    ⟨5, 10, "_law_next", ["_law_draws_here", "_law_many"], ["_law_draws_here", "_law_many", "_law_at", "_law_row"], f5_law_next⟩,
    ⟨28, 11, "_law_same", ["_law_actual", "_law_expected"], ["_law_actual", "_law_expected", "_law_k"], f28_law_same⟩,
    ⟨110, 12, "_law_read_number", ["_law_octets", "_law_at"], ["_law_octets", "_law_at", "_law_number", "_law_scale", "_law_k", "_law_octet"], f110_law_read_number⟩,
    ⟨740, 6, "read_number", ["octets", "at"], ["octets", "at", "number", "scale", "place", "octet"], f740_read_number⟩,
    ⟨741, 13, "_law_try", ["_law_octets", "_law_at"], ["_law_octets", "_law_at", "_law_found", "e"], f741_law_try⟩,
    ⟨743, 14, "law", ["_law_script"], ["_law_script", "_law_draws_here", "_law_menu", "_law_octets", "_law_at", "_law_kept", "_law_found", "_law_k"], f743_law⟩]
  gls := [(18, "BASE", .int 128), (19, "MOST_OCTETS", .int 8)]
  bs := ["abs", "bool", "int", "isinstance", "len", "list", "min", "range", "str", "tuple"]
  cls := [(11, "BadOctets", ["at", "reason"])]
  file := "/claim/cut.py"
def lawId : Nat := 743
def lawRec : Rec := ⟨743, 14, "law", ["_law_script"], ["_law_script", "_law_draws_here", "_law_menu", "_law_octets", "_law_at", "_law_kept", "_law_found", "_law_k"], f743_law⟩

def loose0 : List PySem.Str := ["BridgeError", "BadOctets", "BASE", "MOST_OCTETS", "read_number", "_law_cell", "_law_draws", "_law_next", "_law_same", "_law_read_number", "_law_try"]
def loose : List PySem.Str := loose0
abbrev RWW : PySem.W.OpenRow := PySem.W.OpenLaw.row PySem.Challenge.rw_schemabridge_k09_read_any_octets
theorem headRun (w : World) : HandSHeadRun.RunEq RWW (PySem.W.view RWW.prog [14]) (LT.hook 6) (LT.ob 6) 60000 loose w := by
  intro os
  kernel_rfl
theorem LTck : LT.ck = true := by decide +kernel
theorem LTpk : LT.pck PySem.Challenge.rw_schemabridge_k09_read_any_octets.prog = true := by decide +kernel
theorem law_of (k : Nat) (hk : k ≤ 230) (law : ∀ ns : List Int, ns.length ≤ 63 → ∃ M, run LT.prog k lawId [.rol (ns.map D.int)] [] = .ok (.bl true) M) : PySem.Challenge.rw_schemabridge_k09_read_any_octets.Holds := by
  w_on; o_law
  refine HandSHeadRun.head_any (r := PySem.W.OpenLaw.row PySem.Challenge.rw_schemabridge_k09_read_any_octets) (q := PySem.W.view (PySem.W.OpenLaw.row PySem.Challenge.rw_schemabridge_k09_read_any_octets).prog [14]) (H := LT.hook 6) (ob := LT.ob 6) (M := 60000) (loose := loose) (d := HandSHeadRun.topDef (PySem.W.OpenLaw.row PySem.Challenge.rw_schemabridge_k09_read_any_octets).prog 14) (kwd := []) (LT.ob_eq 6)
    (by kernel_rfl) (fun s => by kernel_rfl) headRun (by kernel_rfl) (by kernel_rfl) (by kernel_rfl) (by rfl) (by first | assumption | decide +kernel) (by decide +kernel) ⟨rfl, rfl, rfl, rfl, rfl, by decide +kernel⟩ ?hw ?hc
  case hw => w_witness2
  case hc =>
    refine walk_ofW (l := PySem.Challenge.rw_schemabridge_k09_read_any_octets) (n := 63) (k := k) (x := "_law_script") rfl (by decide) (by kernel_rfl) (room_all hk) ?F
    case F =>
      intro w mg fa h Y G hmg0
      obtain ⟨K, KX, c⟩ := Y
      have hmg : mg lawRec.name = some (.ref fa) := by
        have e : (HandSHeadRun.topDef (PySem.W.OpenLaw.row PySem.Challenge.rw_schemabridge_k09_read_any_octets).prog 14).name = lawRec.name := by kernel_rfl
        rw [← e]
        exact hmg0
      exact LawT.end_ (T := LT) (L := lawId) (rl := lawRec) LTck LTpk KX G c rfl rfl hmg law


theorem theLib : Lib09 LT.prog := by repeat' (first | rfl | constructor)
end Py
set_option maxRecDepth 100000 in
set_option maxHeartbeats 0 in
theorem PySem.Challenge.cw_schemabridge_k09_read_any_octets_holds : PySem.Challenge.rw_schemabridge_k09_read_any_octets.Holds :=
  Py.law_of 12 (by decide) (fun ns _ => Py.run_law9 Py.theLib ns)
