/-
  Part 3 of 9 of a proof.
-/
import Derived.Test.YtjmkfbhecgkbmaaGreatCst2
import Derived.Orders
import Derived.Below
import Derived.Laws.AppendOwn
import Derived.Laws.MakeOwn
import Derived.Laws.CopyRow
import Derived.Laws.Rows
import Derived.Laws.Cells
import Derived.Tactics
import Derived.Laws.BitsLemmas
import Derived.Maps.Range
import Derived.Carry
import Derived.Test.YtjmkfbhecgkbmaaGreatProg
set_option linter.unusedVariables false
set_option linter.unusedSimpArgs false
set_option maxRecDepth 100000

namespace Go.Proofs.YtjmkfbhecgkbmaaGreat.Vm
open Go
def retK (K:St→Prop) (s:St) (d:Option Tmp):AV→Prop:=fun z=>K (s.ret d z)
def retK2 (K:St→Prop) (d:Option Tmp):AV→St→Prop:=fun z s'=>K (s'.ret d z)
def valK (C:Eff→Prop) (d rd:Option Nat):AV→Prop:=fun z=>C ⟨d,z,rd,none⟩
def wrK (C:Eff→Prop):Nat × Ob→Prop:=fun wr=>C ⟨none,.any,none,some wr⟩
def sethK (K:St→Prop) (s:St):Nat × Ob→Prop:=fun wr=>K (s.seth wr.1 wr.2)
def atK (C:Eff→St→Prop) (s:St):Eff→Prop:=fun f=>C f s
def restV (P:Program) (ops:Array Oper) (L:List (Nat × Nat)) (rest:List Oper) (acc:List (Option Nat × Option Nat)) (K:St→Prop):Eff→St→Prop:=fun f s'=>regV P ops L rest (f.app s') (acc++[(f.rd,f.wi)]) K
def restO (P:Program) (pins:List Nat) (ops:Array Oper) (rest:List Oper) (K:St→Prop):St→Prop:=fun s'=>opsW P pins ops rest s' K
theorem retK_ap {K:St→Prop} {s:St} {d:Option Tmp} {z:AV}:retK K s d z=K (s.ret d z):=id rfl
theorem retK2_ap {K:St→Prop} {s:St} {d:Option Tmp} {z:AV}:retK2 K d z s=K (s.ret d z):=id rfl
theorem valK_ap {C:Eff→Prop} {d rd:Option Nat} {z:AV}:valK C d rd z=C ⟨d,z,rd,none⟩:=id rfl
theorem wrK_ap {C:Eff→Prop} {wr:Nat × Ob}:wrK C wr=C ⟨none,.any,none,some wr⟩:=id rfl
theorem sethK_ap {K:St→Prop} {s:St} {i:Nat} {o:Ob}:sethK K s (i,o)=K (s.seth i o):=id rfl
theorem atK_ap {C:Eff→St→Prop} {s:St} {f:Eff}:atK C s f=C f s:=id rfl
theorem restV_ap {P:Program} {ops:Array Oper} {L:List (Nat × Nat)} {rest:List Oper} {acc:List (Option Nat × Option Nat)} {K:St→Prop} {f:Eff} {s:St}:restV P ops L rest acc K f s=regV P ops L rest (f.app s) (acc++[(f.rd,f.wi)]) K:=id rfl
theorem restO_ap {P:Program} {pins:List Nat} {ops:Array Oper} {rest:List Oper} {K:St→Prop} {s:St}:restO P pins ops rest K s=opsW P pins ops rest s K:=id rfl
section
variable {P:Program} {nw:Nat→Bool} {hp:List Ob} {pins:List Nat} {ops:Array Oper} {L:List (Nat × Nat)} {d:Option Tmp} {ty t u:TypeId} {p:String} {a:Array Edge} {g:Option (Nat × Bool)} {s:St} {C:Eff→Prop} {C2:Eff→St→Prop} {K:St→Prop} {A:AV→Prop}
theorem opF_move {x:Operand}:(opF P nw ⟨d,.move x,ty,p,a,g⟩ s C=(C ⟨d,ev s.env x,none,none⟩)):=propext Iff.rfl
theorem opW_move {x:Operand}:(opW P pins ⟨d,.move x,ty,p,a,g⟩ s K=(K (s.ret d (ev s.env x)))):=propext Iff.rfl
theorem opF_assign {x:Operand}:(opF P nw ⟨d,.assign x,ty,p,a,g⟩ s C=(C ⟨d,ev s.env x,none,none⟩)):=propext Iff.rfl
theorem opW_assign {x:Operand}:(opW P pins ⟨d,.assign x,ty,p,a,g⟩ s K=(K (s.ret d (ev s.env x)))):=propext Iff.rfl
theorem opF_pick {c x y:Operand}:(opF P nw ⟨d,.pick c x y,ty,p,a,g⟩ s C=(pickW (ev s.env c) (ev s.env x) (ev s.env y) (valK C d none))):=propext Iff.rfl
theorem opW_pick {c x y:Operand}:(opW P pins ⟨d,.pick c x y,ty,p,a,g⟩ s K=(pickW (ev s.env c) (ev s.env x) (ev s.env y) (retK K s d))):=propext Iff.rfl
theorem opF_build {ps:Array (Nat × Operand)}:(opF P nw ⟨d,.build t ps,ty,p,a,g⟩ s C=(buildW P (tyOf P t) (ps.toList.map fun p=>(p.1,ev s.env p.2)) (valK C d none))):=propext Iff.rfl
theorem opW_build {ps:Array (Nat × Operand)}:(opW P pins ⟨d,.build t ps,ty,p,a,g⟩ s K=(buildW P (tyOf P t) (ps.toList.map fun p=>(p.1,ev s.env p.2)) (retK K s d))):=propext Iff.rfl
theorem opF_buildSlice {n:Nat} {ps:Array (Nat × Operand)}:(opF P nw ⟨d,.buildSlice t n ps,ty,p,a,g⟩ s C=(litD P (tyOf P t) d n (ps.toList.map fun p=>(p.1,ev s.env p.2)) s.hp (valK C d d))):=propext Iff.rfl
theorem opW_buildSlice {n:Nat} {ps:Array (Nat × Operand)}:(opW P pins ⟨d,.buildSlice t n ps,ty,p,a,g⟩ s K=(litW P (tyOf P t) d n (ps.toList.map fun p=>(p.1,ev s.env p.2)) s (retK2 K d))):=propext Iff.rfl
theorem opF_load {x:Operand}:(opF P nw ⟨d,.load t x,ty,p,a,g⟩ s C=((tyOf P t).d ≠ .no∧((tyOf P t).isAgg=true∨(tyOf P t).size=1)∧loadW (tyOf P t) (ev s.env x) s.hp (valK C d (objOf (ev s.env x))))):=propext Iff.rfl
theorem opW_load {x:Operand}:(opW P pins ⟨d,.load t x,ty,p,a,g⟩ s K=((tyOf P t).d ≠ .no∧((tyOf P t).isAgg=true∨(tyOf P t).size=1)∧loadW (tyOf P t) (ev s.env x) s.hp (retK K s d))):=propext Iff.rfl
theorem opF_store {x y:Operand}:(opF P nw ⟨d,.store t x y,ty,p,a,g⟩ s C=(d=none∧(tyOf P t).d ≠ .no∧storeF (tyOf P t) (ev s.env x) (ev s.env y) s.hp (wrK C))):=propext Iff.rfl
theorem opW_store {x y:Operand}:(opW P pins ⟨d,.store t x y,ty,p,a,g⟩ s K=(d=none∧(tyOf P t).d ≠ .no∧storeW (tyOf P t) (ev s.env x) (ev s.env y) s K)):=propext Iff.rfl
theorem opF_nilCheck {x:Operand}:(opF P nw ⟨d,.nilCheck x,ty,p,a,g⟩ s C=(nilCheckW (ev s.env x) (valK C d none))):=propext Iff.rfl
theorem opW_nilCheck {x:Operand}:(opW P pins ⟨d,.nilCheck x,ty,p,a,g⟩ s K=(nilCheckW (ev s.env x) (retK K s d))):=propext Iff.rfl
theorem opF_binOp {op:BinOp} {x y:Operand}:(opF P nw ⟨d,.binOp op t x y u,ty,p,a,g⟩ s C=(binW P (tyOf P t) op (ev s.env x) (ev s.env y) (valK C d none))):=propext Iff.rfl
theorem opW_binOp {op:BinOp} {x y:Operand}:(opW P pins ⟨d,.binOp op t x y u,ty,p,a,g⟩ s K=(binW P (tyOf P t) op (ev s.env x) (ev s.env y) (retK K s d))):=propext Iff.rfl
theorem opF_unOp {op:UnOp} {x:Operand}:(opF P nw ⟨d,.unOp op t x,ty,p,a,g⟩ s C=(unW op (ev s.env x) (valK C d none))):=propext Iff.rfl
theorem opW_unOp {op:UnOp} {x:Operand}:(opW P pins ⟨d,.unOp op t x,ty,p,a,g⟩ s K=(unW op (ev s.env x) (retK K s d))):=propext Iff.rfl
theorem opF_convert {x:Operand}:(opF P nw ⟨d,.convert t u x,ty,p,a,g⟩ s C=(convW (tyOf P t) (tyOf P u) (ev s.env x) (valK C d none))):=propext Iff.rfl
theorem opW_convert {x:Operand}:(opW P pins ⟨d,.convert t u x,ty,p,a,g⟩ s K=(convW (tyOf P t) (tyOf P u) (ev s.env x) (retK K s d))):=propext Iff.rfl
theorem opF_slice {x:Operand} {lo hi mx:Option Operand}:(opF P nw ⟨d,.slice t x lo hi mx,ty,p,a,g⟩ s C=(sliceW P (tyOf P t) (ev s.env x) (evo s.env lo) (evo s.env hi) (evo s.env mx) s.hp (valK C d (objOf (ev s.env x))))):=propext Iff.rfl
theorem opW_slice {x:Operand} {lo hi mx:Option Operand}:(opW P pins ⟨d,.slice t x lo hi mx,ty,p,a,g⟩ s K=(sliceW P (tyOf P t) (ev s.env x) (evo s.env lo) (evo s.env hi) (evo s.env mx) s.hp (retK K s d))):=propext Iff.rfl
theorem opF_fieldAddr {x:Operand} {f:Nat}:(opF P nw ⟨d,.fieldAddr t x f,ty,p,a,g⟩ s C=(fieldAddrW P (tyOf P t) (ev s.env x) f (valK C d none))):=propext Iff.rfl
theorem opW_fieldAddr {x:Operand} {f:Nat}:(opW P pins ⟨d,.fieldAddr t x f,ty,p,a,g⟩ s K=(fieldAddrW P (tyOf P t) (ev s.env x) f (retK K s d))):=propext Iff.rfl
theorem opF_field {x:Operand} {f:Nat}:(opF P nw ⟨d,.field t x f,ty,p,a,g⟩ s C=(fieldW P (tyOf P t) (ev s.env x) f (valK C d none))):=propext Iff.rfl
theorem opW_field {x:Operand} {f:Nat}:(opW P pins ⟨d,.field t x f,ty,p,a,g⟩ s K=(fieldW P (tyOf P t) (ev s.env x) f (retK K s d))):=propext Iff.rfl
theorem opF_indexAddr {x y:Operand}:(opF P nw ⟨d,.indexAddr t x y,ty,p,a,g⟩ s C=(indexAddrW P (tyOf P t) (ev s.env x) (ev s.env y) s.hp (valK C d (objOf (ev s.env x))))):=propext Iff.rfl
theorem opW_indexAddr {x y:Operand}:(opW P pins ⟨d,.indexAddr t x y,ty,p,a,g⟩ s K=(indexAddrW P (tyOf P t) (ev s.env x) (ev s.env y) s.hp (retK K s d))):=propext Iff.rfl
theorem opF_index {x y:Operand}:(opF P nw ⟨d,.index t x y,ty,p,a,g⟩ s C=(indexW P (tyOf P t) (ev s.env x) (ev s.env y) (valK C d none))):=propext Iff.rfl
theorem opW_index {x y:Operand}:(opW P pins ⟨d,.index t x y,ty,p,a,g⟩ s K=(indexW P (tyOf P t) (ev s.env x) (ev s.env y) (retK K s d))):=propext Iff.rfl
theorem opF_extract {x:Operand} {i:Nat}:(opF P nw ⟨d,.extract x i,ty,p,a,g⟩ s C=(extractW (ev s.env x) i (valK C d none))):=propext Iff.rfl
theorem opW_extract {x:Operand} {i:Nat}:(opW P pins ⟨d,.extract x i,ty,p,a,g⟩ s K=(extractW (ev s.env x) i (retK K s d))):=propext Iff.rfl
theorem opF_makeFunc {f:Fn} {fs cs:Array Operand}:(opF P nw ⟨d,.makeFunc f fs cs,ty,p,a,g⟩ s C=(C ⟨d,.fn f (fs.toList.map (ev s.env)) (cs.toList.map (ev s.env)),none,none⟩)):=propext Iff.rfl
theorem opW_makeFunc {f:Fn} {fs cs:Array Operand}:(opW P pins ⟨d,.makeFunc f fs cs,ty,p,a,g⟩ s K=(K (s.ret d (.fn f (fs.toList.map (ev s.env)) (cs.toList.map (ev s.env)))))):=propext Iff.rfl
theorem opF_len {x:Operand}:(opF P nw ⟨d,.call ⟨.builtin .len,⟨[x]⟩,⟨[t]⟩⟩,ty,p,a,g⟩ s C=(lenW (tyOf P t) (ev s.env x) (valK C d none))):=propext Iff.rfl
theorem opW_len {x:Operand}:(opW P pins ⟨d,.call ⟨.builtin .len,⟨[x]⟩,⟨[t]⟩⟩,ty,p,a,g⟩ s K=(lenW (tyOf P t) (ev s.env x) (retK K s d))):=propext Iff.rfl
theorem opW_append {x y:Operand}:(opW P pins ⟨d,.call ⟨.builtin .append,⟨[x,y]⟩,⟨[t,u]⟩⟩,ty,p,a,g⟩ s K=(t=u∧appendW P (tyOf P t) pins d (ev s.env x) (ev s.env y) s (retK2 K d))):=propext Iff.rfl
theorem opW_copy {x y:Operand}:(opW P pins ⟨d,.call ⟨.builtin .copy,⟨[x,y]⟩,⟨[t,u]⟩⟩,ty,p,a,g⟩ s K=(copyW P (tyOf P t) (ev s.env x) (ev s.env y) s (retK2 K d))):=propext Iff.rfl
theorem opW_clear {x:Operand}:(opW P pins ⟨d,.call ⟨.builtin .clear,⟨[x]⟩,⟨[t]⟩⟩,ty,p,a,g⟩ s K=(clearW P (tyOf P t) (ev s.env x) s (fun s'=>K (s'.ret d .any)))):=propext Iff.rfl
def clrO (P:Program) (e:TypeId) (i off n:Nat) (s:St) (K:St→Prop) (o:Ob):Prop :=
 match o with
 | .arr T k pf rows=>k=(tyOf P e).size∧off+n≤rows.length∧K (s.seth i (.arr T k pf (rows.take off++List.replicate n (tyOf P e).zero++rows.drop (off+n))))
 | _=>False
theorem clearW_sref {e:TypeId} {n0 b:Nat} {hz:Bool} {z:List AV} {i off n:Nat}:(clearW P ⟨.slice e,n0,b,hz,z⟩ (.sref i off n) s K=((tyOf P e).d ≠ .no∧(tyOf P e).hz=true∧(tyOf P e).zero.length=(tyOf P e).size∧(tyOf P e).zero.all AV.one=true∧clrO P e i off n s K (s.hp.getD i .dead))):=by
 unfold clearW clrO
 rfl
theorem clrO_arr {e:TypeId} {i off n:Nat} {T:TypeId} {k:Nat} {pf:Bool} {rows:List (List AV)}:(clrO P e i off n s K (.arr T k pf rows)=(k=(tyOf P e).size∧off+n≤rows.length∧K (s.seth i (.arr T k pf (rows.take off++List.replicate n (tyOf P e).zero++rows.drop (off+n)))))):=propext Iff.rfl
theorem opW_makeSlice {x y:Operand}:(opW P pins ⟨d,.makeSlice t x y,ty,p,a,g⟩ s K=(makeW P (tyOf P t) d (ev s.env x) (ev s.env y) s (retK2 K d))):=propext Iff.rfl
theorem opF_alloc {d:Tmp}:(opF P nw ⟨some d,.alloc t,ty,p,a,g⟩ s C=(dead s d∧(tyOf P t).d ≠ .no∧(tyOf P t).hz=true∧C ⟨some d,.ptr d 0 0,none,some (d,.arr t (tyOf P t).zero.length false [(tyOf P t).zero])⟩)):=propext Iff.rfl
theorem opF_box {d:Tmp} {x:Operand}:(opF P nw ⟨some d,.box t x,ty,p,a,g⟩ s C=(dead s d∧storable (ev s.env x)=true∧C ⟨some d,.ptr d 0 0,none,some (d,.arr t (cellsOf (ev s.env x)).length false [cellsOf (ev s.env x)])⟩)):=propext Iff.rfl
theorem opW_alloc {d:Tmp}:(opW P pins ⟨some d,.alloc t,ty,p,a,g⟩ s K=(dead s d∧(tyOf P t).d ≠ .no∧(tyOf P t).hz=true∧K ((s.seth d (.arr t (tyOf P t).zero.length false [(tyOf P t).zero])).ret (some d) (.ptr d 0 0)))):=propext Iff.rfl
theorem opW_box {d:Tmp} {x:Operand}:(opW P pins ⟨some d,.box t x,ty,p,a,g⟩ s K=(dead s d∧storable (ev s.env x)=true∧K ((s.seth d (.arr t (cellsOf (ev s.env x)).length false [cellsOf (ev s.env x)])).ret (some d) (.ptr d 0 0)))):=propext Iff.rfl
def callF (P:Program) (nw:Nat→Bool) (hp:List Ob) (d:Option Tmp) (f:AV) (avs:List AV) (C:Eff→Prop):Prop :=
 match f with
 | .fn (.func g) first cap=>enters P g=true∧∃ r,CallFx P nw hp g (first++avs++cap) r∧C ⟨d,r,none,none⟩
 | _=>False
def callW (P:Program) (pins:List Nat) (d:Option Tmp) (f:AV) (avs:List AV) (s:St) (K:St→Prop):Prop :=
 match f with
 | .fn (.func g) first cap=>enters P g=true∧CallOk P pins g (first++avs++cap) s (retK2 K d)
 | _=>False
theorem opF_call {f:Operand} {xs:List Operand} {tys:Array TypeId}:(opF P nw ⟨d,.call ⟨.value f,⟨xs⟩,tys⟩,ty,p,a,g⟩ s C=callF P nw s.hp d (ev s.env f) (xs.map (ev s.env)) C):=propext Iff.rfl
theorem opW_call {f:Operand} {xs:List Operand} {tys:Array TypeId}:(opW P pins ⟨d,.call ⟨.value f,⟨xs⟩,tys⟩,ty,p,a,g⟩ s K=callW P pins d (ev s.env f) (xs.map (ev s.env)) s K):=propext Iff.rfl
theorem callF_fn {g:FuncId} {first cap avs:List AV}:(callF P nw hp d (.fn (.func g) first cap) avs C=(enters P g=true∧∃ r,CallFx P nw hp g (first++avs++cap) r∧C ⟨d,r,none,none⟩)):=propext Iff.rfl
theorem callW_fn {g:FuncId} {first cap avs:List AV}:(callW P pins d (.fn (.func g) first cap) avs s K=(enters P g=true∧CallOk P pins g (first++avs++cap) s (retK2 K d))):=propext Iff.rfl
def effG (P:Program) (nw:Nat→Bool) (ops:Array Oper) (o:Oper) (j:Nat) (want:Bool) (x:AV) (s:St) (C:Eff→St→Prop):Prop :=
 match x with
 | .bool b=>(b=want→opF P nw o (s.known ops j want) (atK C (s.known ops j want)))∧(b=(!want)→C ⟨o.dst,.und,none,none⟩ (s.known ops j (!want)))
 | .und=>C ⟨o.dst,.und,none,none⟩ s
 | _=>False
def opsG (P:Program) (pins:List Nat) (ops:Array Oper) (o:Oper) (rest:List Oper) (j:Nat) (want:Bool) (x:AV) (s:St) (K:St→Prop):Prop :=
 match x with
 | .bool b=>(b=want→opW P pins o (s.known ops j want) (restO P pins ops rest K))∧(b=(!want)→opsW P pins ops rest ((s.known ops j (!want)).ret o.dst .und) K)
 | .und=>opsW P pins ops rest (s.ret o.dst .und) K
 | _=>False
def effH (P:Program) (nw:Nat→Bool) (ops:Array Oper) (o:Oper) (want:Bool) (x:AV) (s:St) (C:Eff→St→Prop):Prop :=
 match x with
 | .bool b=>bif b == want then opF P nw o s (atK C s) else C ⟨o.dst,.und,none,none⟩ s
 | .und=>C ⟨o.dst,.und,none,none⟩ s
 | _=>False
def opsH (P:Program) (pins:List Nat) (ops:Array Oper) (o:Oper) (rest:List Oper) (want:Bool) (x:AV) (s:St) (K:St→Prop):Prop :=
 match x with
 | .bool b=>bif b == want then opW P pins o s (restO P pins ops rest K) else opsW P pins ops rest (s.ret o.dst .und) K
 | .und=>opsW P pins ops rest (s.ret o.dst .und) K
 | _=>False
theorem effH_tt {o:Oper}:(effH P nw ops o true (.bool true) s C2=opF P nw o s (atK C2 s)):=propext Iff.rfl
theorem effH_ff {o:Oper}:(effH P nw ops o false (.bool false) s C2=opF P nw o s (atK C2 s)):=propext Iff.rfl
theorem effH_tf {o:Oper}:(effH P nw ops o true (.bool false) s C2=C2 ⟨o.dst,.und,none,none⟩ s):=propext Iff.rfl
theorem effH_ft {o:Oper}:(effH P nw ops o false (.bool true) s C2=C2 ⟨o.dst,.und,none,none⟩ s):=propext Iff.rfl
theorem effH_und {o:Oper} {want:Bool}:(effH P nw ops o want .und s C2=C2 ⟨o.dst,.und,none,none⟩ s):=propext Iff.rfl
theorem opsH_tt {o:Oper} {rest:List Oper}:(opsH P pins ops o rest true (.bool true) s K=opW P pins o s (restO P pins ops rest K)):=propext Iff.rfl
theorem opsH_ff {o:Oper} {rest:List Oper}:(opsH P pins ops o rest false (.bool false) s K=opW P pins o s (restO P pins ops rest K)):=propext Iff.rfl
theorem opsH_tf {o:Oper} {rest:List Oper}:(opsH P pins ops o rest true (.bool false) s K=opsW P pins ops rest (s.ret o.dst .und) K):=propext Iff.rfl
theorem opsH_ft {o:Oper} {rest:List Oper}:(opsH P pins ops o rest false (.bool true) s K=opsW P pins ops rest (s.ret o.dst .und) K):=propext Iff.rfl
theorem opsH_und {o:Oper} {rest:List Oper} {want:Bool}:(opsH P pins ops o rest want .und s K=opsW P pins ops rest (s.ret o.dst .und) K):=propext Iff.rfl
theorem effW_free {op:Op}:(effW P nw ops ⟨d,op,ty,p,a,none⟩ s C2=opF P nw ⟨d,op,ty,p,a,none⟩ s (atK C2 s)):=propext Iff.rfl
theorem effW_guard {op:Op} {j:Nat} {want:Bool}:(effW P nw ops ⟨d,op,ty,p,a,some (j,want)⟩ s C2=effH P nw ops ⟨d,op,ty,p,a,some (j,want)⟩ want (guardOf ops s.env j) s C2):=by
 refine propext ?_
 show effG P nw ops ⟨d,op,ty,p,a,some (j,want)⟩ j want (guardOf ops s.env j) s C2↔_
 cases hx:guardOf ops s.env j with
 | bool b =>
  show ((b=want→opF P nw _ (s.known ops j want) (atK C2 (s.known ops j want)))∧(b=(!want)→C2 _ (s.known ops j (!want))))↔_
  by_cases hb:b=want
  ·subst hb
   rw [known_eq hx]
   cases b <;> simp [effH]
  ·have hb2:b=!want:=by cases b <;> cases want <;> simp_all
   subst hb2
   rw [known_eq hx]
   cases want <;> simp [effH]
 | _=>exact Iff.rfl
theorem opsW_nil  : (opsW P pins ops [] s K=K s):=propext Iff.rfl
theorem opsW_free {op:Op} {rest:List Oper}:(opsW P pins ops (⟨d,op,ty,p,a,none⟩::rest) s K=opW P pins ⟨d,op,ty,p,a,none⟩ s (restO P pins ops rest K)):=propext Iff.rfl
theorem opsW_guard {op:Op} {rest:List Oper} {j:Nat} {want:Bool}:(opsW P pins ops (⟨d,op,ty,p,a,some (j,want)⟩::rest) s K=opsH P pins ops ⟨d,op,ty,p,a,some (j,want)⟩ rest want (guardOf ops s.env j) s K):=by
 refine propext ?_
 show opsG P pins ops ⟨d,op,ty,p,a,some (j,want)⟩ rest j want (guardOf ops s.env j) s K↔_
 cases hx:guardOf ops s.env j with
 | bool b =>
  show ((b=want→opW P pins _ (s.known ops j want) (restO P pins ops rest K))∧(b=(!want)→opsW P pins ops rest ((s.known ops j (!want)).ret _ .und) K))↔_
  by_cases hb:b=want
  ·subst hb
   rw [known_eq hx]
   cases b <;> simp [opsH]
  ·have hb2:b=!want:=by cases b <;> cases want <;> simp_all
   subst hb2
   rw [known_eq hx]
   cases want <;> simp [opsH]
 | _=>exact Iff.rfl
theorem regV_nil {acc:List (Option Nat × Option Nat)}:(regV P ops L [] s acc K=(sepL L acc∧K s)):=propext Iff.rfl
theorem regV_cons {acc:List (Option Nat × Option Nat)} {o:Oper} {rest:List Oper}:(regV P ops L (o::rest) s acc K=effW P (nwL ops L) ops o s (restV P ops L rest acc K)):=propext Iff.rfl
theorem binW_add {k:IntKind} {x y:Int} {ti:TI}:binW P ti .add (.int k x) (.int k y) A=A (.int k (k.wrap (x+y))):=propext ⟨fun h=>h.2,fun h=>⟨rfl,h⟩⟩
theorem binW_sub {k:IntKind} {x y:Int} {ti:TI}:binW P ti .sub (.int k x) (.int k y) A=A (.int k (k.wrap (x-y))):=propext ⟨fun h=>h.2,fun h=>⟨rfl,h⟩⟩
theorem binW_mul {k:IntKind} {x y:Int} {ti:TI}:binW P ti .mul (.int k x) (.int k y) A=A (.int k (k.wrap (x*y))):=propext ⟨fun h=>h.2,fun h=>⟨rfl,h⟩⟩
theorem binW_and {k:IntKind} {x y:Int} {ti:TI}:binW P ti .and (.int k x) (.int k y) A=A (.int k (bandI k x y)):=propext ⟨fun h=>h.2,fun h=>⟨rfl,h⟩⟩
theorem binW_or {k:IntKind} {x y:Int} {ti:TI}:binW P ti .or (.int k x) (.int k y) A=A (.int k (borI k x y)):=propext ⟨fun h=>h.2,fun h=>⟨rfl,h⟩⟩
theorem binW_xor {k:IntKind} {x y:Int} {ti:TI}:binW P ti .xor (.int k x) (.int k y) A=A (.int k (bxorI k x y)):=propext ⟨fun h=>h.2,fun h=>⟨rfl,h⟩⟩
theorem binW_andNot {k:IntKind} {x y:Int} {ti:TI}:binW P ti .andNot (.int k x) (.int k y) A=A (.int k (bandnI k x y)):=propext ⟨fun h=>h.2,fun h=>⟨rfl,h⟩⟩
theorem binW_eql {k:IntKind} {x y:Int} {ti:TI}:binW P ti .eql (.int k x) (.int k y) A=A (.bool (x == y)):=propext ⟨fun h=>h.2,fun h=>⟨rfl,h⟩⟩
theorem binW_neq {k:IntKind} {x y:Int} {ti:TI}:binW P ti .neq (.int k x) (.int k y) A=A (.bool (x != y)):=propext ⟨fun h=>h.2,fun h=>⟨rfl,h⟩⟩
theorem binW_lss {k:IntKind} {x y:Int} {ti:TI}:binW P ti .lss (.int k x) (.int k y) A=A (.bool (decide (x<y))):=propext ⟨fun h=>h.2,fun h=>⟨rfl,h⟩⟩
theorem binW_leq {k:IntKind} {x y:Int} {ti:TI}:binW P ti .leq (.int k x) (.int k y) A=A (.bool (decide (x≤y))):=propext ⟨fun h=>h.2,fun h=>⟨rfl,h⟩⟩
theorem binW_gtr {k:IntKind} {x y:Int} {ti:TI}:binW P ti .gtr (.int k x) (.int k y) A=A (.bool (decide (x>y))):=propext ⟨fun h=>h.2,fun h=>⟨rfl,h⟩⟩
theorem binW_geq {k:IntKind} {x y:Int} {ti:TI}:binW P ti .geq (.int k x) (.int k y) A=A (.bool (decide (x≥y))):=propext ⟨fun h=>h.2,fun h=>⟨rfl,h⟩⟩
theorem binW_quo {k:IntKind} {x y:Int} {ti:TI}:binW P ti .quo (.int k x) (.int k y) A=(y≠0∧A (.int k (k.wrap (x.tdiv y)))):=propext ⟨fun h=>h.2,fun h=>⟨rfl,h⟩⟩
theorem binW_rem {k:IntKind} {x y:Int} {ti:TI}:binW P ti .rem (.int k x) (.int k y) A=(y≠0∧A (.int k (x.tmod y))):=propext ⟨fun h=>h.2,fun h=>⟨rfl,h⟩⟩
theorem binW_shl {k k2:IntKind} {x y:Int} {ti:TI}:(binW P ti .shl (.int k x) (.int k2 y) A=(0≤y∧A (.int k (k.wrap (x*p2 (min y.toNat k.bits)))))):=propext Iff.rfl
theorem binW_shr {k k2:IntKind} {x y:Int} {ti:TI}:(binW P ti .shr (.int k x) (.int k2 y) A=(0≤y∧A (.int k (x.fdiv (2^min y.toNat k.bits))))):=propext Iff.rfl
theorem binW_beql {b c:Bool} {ti:TI}:(binW P ti .eql (.bool b) (.bool c) A=(ti.d = .bool∧A (.bool (b == c)))):=propext Iff.rfl
theorem binW_bneq {b c:Bool} {ti:TI}:(binW P ti .neq (.bool b) (.bool c) A=(ti.d = .bool∧A (.bool (!(b == c))))):=propext Iff.rfl
section
variable {e:TypeId} {sz by' i j off:Nat} {hz:Bool} {z:List AV}
theorem binW_pneql:binW P ⟨.ptr e,sz,by',hz,z⟩ .eql (.ptr i j off) .nilp A=A (.bool false):=propext ⟨fun h=>h.2,fun h=>⟨rfl,h⟩⟩
theorem binW_pnneq:binW P ⟨.ptr e,sz,by',hz,z⟩ .neq (.ptr i j off) .nilp A=A (.bool true):=propext ⟨fun h=>h.2,fun h=>⟨rfl,h⟩⟩
theorem binW_nneql:binW P ⟨.ptr e,sz,by',hz,z⟩ .eql .nilp .nilp A=A (.bool true):=propext ⟨fun h=>h.2,fun h=>⟨rfl,h⟩⟩
theorem binW_nnneq:binW P ⟨.ptr e,sz,by',hz,z⟩ .neq .nilp .nilp A=A (.bool false):=propext ⟨fun h=>h.2,fun h=>⟨rfl,h⟩⟩
end
theorem binW_seql {b c:ByteArray} {ti:TI}:(binW P ti .eql (.str b) (.str c) A=A (.bool (b.toList == c.toList))):=propext Iff.rfl
theorem binW_sneq {b c:ByteArray} {ti:TI}:(binW P ti .neq (.str b) (.str c) A=A (.bool (!(b.toList == c.toList)))):=propext Iff.rfl
theorem pickW_bool {c x y:Bool}:(pickW (.bool c) (.bool x) (.bool y) A=A (.bool (bif c then x else y))):=propext Iff.rfl
theorem pickW_yes {x y:AV}:pickW (.bool true) x y A=A x:=by
 refine propext ⟨fun h=>?_,fun h=>?_⟩
 ·obtain ⟨z,h1,h2⟩:=pickW_det _ _ _ _ h
  cases x <;> cases y <;> first | exact h | exact h.1 rfl
 ·cases x <;> cases y <;> first | exact h | exact ⟨fun _=>h,(fun h=>by cases h)⟩
theorem pickW_no {x y:AV}:pickW (.bool false) x y A=A y:=by
 refine propext ⟨fun h=>?_,fun h=>?_⟩
 ·cases x <;> cases y <;> first | exact h | exact h.2 rfl
 ·cases x <;> cases y <;> first | exact h | exact ⟨(fun h=>by cases h),fun _=>h⟩
theorem extractW_tup {l:List AV} {i:Nat}:(extractW (.tup l) i A=(i<l.length∧A (l.getD i .any))):=propext Iff.rfl
theorem nilCheckW_ptr {i j off:Nat}:(nilCheckW (.ptr i j off) A=A (.ptr i j off)):=propext Iff.rfl
theorem nilCheckW_ia {row:List AV} {off:Nat}:(nilCheckW (.ia row off) A=A (.ia row off)):=propext Iff.rfl
theorem loadW_ia {ti:TI} {row:List AV} {off:Nat} {hp:List Ob}:(loadW ti (.ia row off) hp A=(off+ti.size≤row.length∧A (ofCells ti ((row.drop off).take ti.size)))):=propext Iff.rfl
def loadO (ti:TI) (j off:Nat) (o:Ob) (A:AV→Prop):Prop :=
 match o with
 | .arr _ _ _ rows=>j<rows.length∧off+ti.size≤(rows.getD j []).length∧A (ofCells ti (((rows.getD j []).drop off).take ti.size))
 | _=>False
def storeO (ti:TI) (i j off:Nat) (y:AV) (o:Ob) (C:Nat × Ob→Prop):Prop :=
 match o with
 | .arr T k pf rows=>storable y=true∧(cellsOf y).length=ti.size∧(pf=true→AV.pures (cellsOf y)=true)∧j<rows.length∧off+ti.size≤(rows.getD j []).length ∧
    C (i,.arr T k pf (rows.set j (overlay (rows.getD j []) off (cellsOf y))))
 | _=>False
def kOk (o:Ob) (n:Nat):Prop:=match o with | .arr _ k _ _=>k=n | _=>False
theorem kOk_arr {T:TypeId} {k n:Nat} {pf:Bool} {rows:List (List AV)}:(kOk (.arr T k pf rows) n=(k=n)):=propext Iff.rfl
theorem loadW_ptr {ti:TI} {i j off:Nat} {hp:List Ob}:(loadW ti (.ptr i j off) hp A=loadO ti j off (hp.getD i .dead) A):=propext Iff.rfl
theorem loadO_arr {ti:TI} {j off:Nat} {T:TypeId} {k:Nat} {pf:Bool} {rows:List (List AV)}:(loadO ti j off (.arr T k pf rows) A=(j<rows.length∧off+ti.size≤(rows.getD j []).length∧A (ofCells ti (((rows.getD j []).drop off).take ti.size)))):=propext Iff.rfl
theorem storeF_ptr {ti:TI} {i j off:Nat} {y:AV} {hp:List Ob} {C:Nat × Ob→Prop}:(storeF ti (.ptr i j off) y hp C=storeO ti i j off y (hp.getD i .dead) C):=propext Iff.rfl
theorem storeW_ptr {ti:TI} {i j off:Nat} {y:AV}:(storeW ti (.ptr i j off) y s K=storeO ti i j off y (s.hp.getD i .dead) (sethK K s)):=propext Iff.rfl
theorem storeO_arr {ti:TI} {i j off:Nat} {y:AV} {T:TypeId} {k:Nat} {pf:Bool} {rows:List (List AV)} {C:Nat × Ob→Prop}:(storeO ti i j off y (.arr T k pf rows) C=(storable y=true∧(cellsOf y).length=ti.size∧(pf=true→AV.pures (cellsOf y)=true)∧j<rows.length∧off+ti.size≤(rows.getD j []).length∧C (i,.arr T k pf (rows.set j (overlay (rows.getD j []) off (cellsOf y)))))):=propext Iff.rfl
theorem fieldAddrW_ia {n b:Nat} {hz:Bool} {z:List AV} {fs:List (Nat × TypeId)} {row:List AV} {off f:Nat}:(fieldAddrW P ⟨.struct fs,n,b,hz,z⟩ (.ia row off) f A=(f<fs.length∧(tyOf P (fs.getD f (0,0)).2).d ≠ .no∧(tyOf P (fs.getD f (0,0)).2).size≠0∧A (.ia row (off+(fs.getD f (0,0)).1)))):=propext Iff.rfl
theorem fieldAddrW_ptr {n b:Nat} {hz:Bool} {z:List AV} {fs:List (Nat × TypeId)} {i j off f:Nat}:(fieldAddrW P ⟨.struct fs,n,b,hz,z⟩ (.ptr i j off) f A=(f<fs.length∧(tyOf P (fs.getD f (0,0)).2).d ≠ .no∧(tyOf P (fs.getD f (0,0)).2).size≠0∧A (.ptr i j (off+(fs.getD f (0,0)).1)))):=propext Iff.rfl
theorem fieldW_agg {n b:Nat} {hz:Bool} {z:List AV} {fs:List (Nat × TypeId)} {cs:List AV} {f:Nat}:(fieldW P ⟨.struct fs,n,b,hz,z⟩ (.agg cs) f A=(f<fs.length∧(tyOf P (fs.getD f (0,0)).2).d ≠ .no∧((tyOf P (fs.getD f (0,0)).2).isAgg=true∨(tyOf P (fs.getD f (0,0)).2).size=1)∧(fs.getD f (0,0)).1+(tyOf P (fs.getD f (0,0)).2).size≤cs.length∧A (ofCells (tyOf P (fs.getD f (0,0)).2) ((cs.drop (fs.getD f (0,0)).1).take (tyOf P (fs.getD f (0,0)).2).size)))):=propext Iff.rfl
theorem indexAddrW_sl {n b:Nat} {hz:Bool} {z:List AV} {e:TypeId} {rows:List (List AV)} {k:IntKind} {m:Int} {hp:List Ob}:(indexAddrW P ⟨.slice e,n,b,hz,z⟩ (.sl rows) (.int k m) hp A=((tyOf P e).d ≠ .no∧0≤m∧m<rows.length∧AllLen (tyOf P e).size rows∧A (.ia (rows.getD m.toNat []) 0))):=propext Iff.rfl
theorem indexAddrW_sref {n b:Nat} {hz:Bool} {z:List AV} {e:TypeId} {i off c:Nat} {k:IntKind} {m:Int} {hp:List Ob}:(indexAddrW P ⟨.slice e,n,b,hz,z⟩ (.sref i off c) (.int k m) hp A=((tyOf P e).d ≠ .no∧0≤m∧m<c∧kOk (hp.getD i .dead) (tyOf P e).size∧A (.ptr i (off+m.toNat) 0))):=propext Iff.rfl
theorem indexAddrW_aptr {n b:Nat} {hz:Bool} {z:List AV} {e:TypeId} {len i j off:Nat} {k:IntKind} {m:Int} {hp:List Ob}:(indexAddrW P ⟨.arr len e,n,b,hz,z⟩ (.ptr i j off) (.int k m) hp A=((tyOf P e).d ≠ .no∧0≤m∧m<len∧A (.ptr i j (off+m.toNat*(tyOf P e).size)))):=propext Iff.rfl
theorem indexAddrW_aia {n b:Nat} {hz:Bool} {z:List AV} {e:TypeId} {len off:Nat} {row:List AV} {k:IntKind} {m:Int} {hp:List Ob}:(indexAddrW P ⟨.arr len e,n,b,hz,z⟩ (.ia row off) (.int k m) hp A=((tyOf P e).d ≠ .no∧0≤m∧m<len∧A (.ia row (off+m.toNat*(tyOf P e).size)))):=propext Iff.rfl
theorem indexW_str {n b:Nat} {hz:Bool} {z:List AV} {s:ByteArray} {k:IntKind} {m:Int}:(indexW P ⟨.str,n,b,hz,z⟩ (.str s) (.int k m) A=(0≤m∧m<s.size∧A (.int .u8 ((s.get! m.toNat).toNat)))):=propext Iff.rfl
theorem lenW_str {n b:Nat} {hz:Bool} {z:List AV} {s:ByteArray}:(lenW ⟨.str,n,b,hz,z⟩ (.str s) A=A (.int .i64 s.size)):=propext Iff.rfl
theorem lenW_sl {n b:Nat} {hz:Bool} {z:List AV} {e:TypeId} {rows:List (List AV)}:(lenW ⟨.slice e,n,b,hz,z⟩ (.sl rows) A=A (.int .i64 rows.length)):=propext Iff.rfl
theorem lenW_sref {n b:Nat} {hz:Bool} {z:List AV} {e:TypeId} {i off c:Nat}:(lenW ⟨.slice e,n,b,hz,z⟩ (.sref i off c) A=A (.int .i64 c)):=propext Iff.rfl
theorem lenW_nils {n b:Nat} {hz:Bool} {z:List AV} {e:TypeId}:(lenW ⟨.slice e,n,b,hz,z⟩ .nils A=A (.int .i64 0)):=propext Iff.rfl
theorem convW_int {n b n2 b2:Nat} {hz hz2:Bool} {z z2:List AV} {k1 k2 k3:IntKind} {m:Int}:(convW ⟨.int k1,n,b,hz,z⟩ ⟨.int k2,n2,b2,hz2,z2⟩ (.int k3 m) A=A (.int k2 (k2.wrap m))):=propext Iff.rfl
theorem convW_str {n b n2 b2:Nat} {hz hz2:Bool} {z z2:List AV} {s:ByteArray}:(convW ⟨.str,n,b,hz,z⟩ ⟨.str,n2,b2,hz2,z2⟩ (.str s) A=A (.str s)):=propext Iff.rfl
theorem buildW_struct {n b:Nat} {hz:Bool} {z:List AV} {fs:List (Nat × TypeId)} {parts:List (Nat × AV)}:(buildW P ⟨.struct fs,n,b,hz,z⟩ parts A=(hz=true∧(∀ p∈parts,storable p.2=true∧p.1<fs.length∧(tyOf P (fs.getD p.1 (0,0)).2).d ≠ .no∧(cellsOf p.2).length=(tyOf P (fs.getD p.1 (0,0)).2).size∧(fs.getD p.1 (0,0)).1+(cellsOf p.2).length≤z.length)∧(∀ f∈fs,(tyOf P f.2).d ≠ .no)∧A (.agg (parts.foldl (fun cs p=>laid cs (fs.getD p.1 (0,0)).1 (cellsOf p.2)) z)))):=propext Iff.rfl
theorem buildW_arr {n b:Nat} {hz:Bool} {z:List AV} {k:Nat} {e:TypeId} {parts:List (Nat × AV)}:(buildW P ⟨.arr k e,n,b,hz,z⟩ parts A=(hz=true∧(tyOf P e).d ≠ .no∧(∀ p∈parts,storable p.2=true∧(cellsOf p.2).length=(tyOf P e).size∧p.1*(tyOf P e).size+(cellsOf p.2).length≤z.length)∧A (.agg (parts.foldl (fun cs p=>laid cs (p.1*(tyOf P e).size) (cellsOf p.2)) z)))):=propext Iff.rfl
theorem indexW_arr {n b:Nat} {hz:Bool} {z:List AV} {len:Nat} {e:TypeId} {cs:List AV} {k:IntKind} {m:Int}:(indexW P ⟨.arr len e,n,b,hz,z⟩ (.agg cs) (.int k m) A=((tyOf P e).d ≠ .no∧((tyOf P e).isAgg=true∨(tyOf P e).size=1)∧0≤m∧m<len∧m.toNat*(tyOf P e).size+(tyOf P e).size≤cs.length∧A (ofCells (tyOf P e) ((cs.drop (m.toNat*(tyOf P e).size)).take (tyOf P e).size)))):=propext Iff.rfl
theorem litD_slice {n b:Nat} {hz:Bool} {z:List AV} {e:TypeId} {d:Nat} {len:Nat} {parts:List (Nat × AV)} {hp:List Ob}:(litD P ⟨.slice e,n,b,hz,z⟩ (some d) len parts hp A=(dead ⟨[],hp⟩ d∧(tyOf P e).d ≠ .no∧(tyOf P e).hz=true∧(tyOf P e).zero.length=(tyOf P e).size∧parts.map (·.1)=List.range len∧len*(tyOf P e).size≤16777216∧len≤16777216∧(∀ p∈parts,storable p.2=true∧(cellsOf p.2).length=(tyOf P e).size∧AV.pures (cellsOf p.2)=true)∧A (.sl (parts.map fun p=>cellsOf p.2)))):=propext Iff.rfl
theorem makeW_slice {n b:Nat} {hz:Bool} {z:List AV} {e:TypeId} {d:Nat} {k1 k2:IntKind} {m1 m2:Int} {A:AV→St→Prop}:(makeW P ⟨.slice e,n,b,hz,z⟩ (some d) (.int k1 m1) (.int k2 m2) s A=(m1=m2∧dead s d∧(tyOf P e).d ≠ .no∧(tyOf P e).hz=true∧(tyOf P e).zero.length=(tyOf P e).size∧0≤m1∧((tyOf P e).bytes:Int)*m1≤281474976710656∧m1≤9223372036854775807∧A (.sref d 0 m1.toNat) (s.seth d (.arr e (tyOf P e).size true (List.replicate m1.toNat (tyOf P e).zero))))):=propext Iff.rfl
theorem ev_tmp {e:List AV} {i:Nat}:ev e (.tmp i)=e.getD i .any:=id rfl
theorem ev_const {e:List AV} {v:Value}:ev e (.const v)=cstV v:=id rfl
theorem ev_global {e:List AV} {i:Nat}:ev e (.global i) = .gl i:=id rfl
theorem ev_func {e:List AV} {i:FuncId}:ev e (.func i) = .fn (.func i) [] []:=id rfl
theorem evo_none {e:List AV}:evo e none=none:=id rfl
theorem evo_some {e:List AV} {x:Operand}:evo e (some x)=some (ev e x):=id rfl
theorem cst_int {k:IntKind} {m:Int}:cstV (.int k m) = .int k m:=id rfl
theorem cst_bool {b:Bool}:cstV (.bool b) = .bool b:=id rfl
theorem cst_str {b:ByteArray}:cstV (.string b) = .str b:=id rfl
theorem cst_nils  : cstV (.slice none 0 0) = .nils:=id rfl
theorem cst_nilp  : cstV (.pointer none) = .nilp:=id rfl
theorem cst_nilif  : cstV .nilIface = .nilif:=id rfl
theorem cst_nilfn  : cstV .nilFunc = .nilfn:=id rfl
theorem cst_agg {cs:List Value}:cstV (.agg ⟨cs⟩) = .agg (cs.map cst1):=id rfl
theorem froz_any {i:Nat} {rows:List (List AV)}  : AV.froz i rows (.any)=(.any):=by simp only [AV.froz]
theorem froz_und {i:Nat} {rows:List (List AV)}  : AV.froz i rows (.und)=(.und):=by simp only [AV.froz]
theorem froz_int {i:Nat} {rows:List (List AV)} {k:IntKind} {m:Int}:AV.froz i rows (.int k m)=(.int k m):=by simp only [AV.froz]
theorem froz_bool {i:Nat} {rows:List (List AV)} {b:Bool}:AV.froz i rows (.bool b)=(.bool b):=by simp only [AV.froz]
theorem froz_str {i:Nat} {rows:List (List AV)} {b:ByteArray}:AV.froz i rows (.str b)=(.str b):=by simp only [AV.froz]
theorem froz_nils {i:Nat} {rows:List (List AV)}  : AV.froz i rows (.nils)=(.nils):=by simp only [AV.froz]
theorem froz_sl {i:Nat} {rows:List (List AV)} {l:List (List AV)}:AV.froz i rows (.sl l)=(.sl l):=by simp only [AV.froz]
theorem froz_ia {i:Nat} {rows:List (List AV)} {l:List AV} {o:Nat}:AV.froz i rows (.ia l o)=(.ia l o):=by simp only [AV.froz]
theorem froz_nilp {i:Nat} {rows:List (List AV)}  : AV.froz i rows (.nilp)=(.nilp):=by simp only [AV.froz]
theorem froz_nilif {i:Nat} {rows:List (List AV)}  : AV.froz i rows (.nilif)=(.nilif):=by simp only [AV.froz]
theorem froz_nilfn {i:Nat} {rows:List (List AV)}  : AV.froz i rows (.nilfn)=(.nilfn):=by simp only [AV.froz]
theorem froz_nilmp {i:Nat} {rows:List (List AV)}  : AV.froz i rows (.nilmp)=(.nilmp):=by simp only [AV.froz]
theorem froz_gl {i:Nat} {rows:List (List AV)} {g:Nat}:AV.froz i rows (.gl g)=(.gl g):=by simp only [AV.froz]
theorem froz_sref {i:Nat} {rows:List (List AV)} {j off n:Nat}:AV.froz i rows (.sref j off n)=(if j=i then .sl ((rows.drop off).take n) else .sref j off n):=by simp only [AV.froz]
theorem froz_ptr {i:Nat} {rows:List (List AV)} {j r off:Nat}:AV.froz i rows (.ptr j r off)=(if j=i then .ia (rows.getD r []) off else .ptr j r off):=by simp only [AV.froz]
theorem froz_agg {i:Nat} {rows:List (List AV)} {l:List AV}:AV.froz i rows (.agg l)=(.agg (AV.frozs i rows l)):=by simp only [AV.froz]
theorem froz_tup {i:Nat} {rows:List (List AV)} {l:List AV}:AV.froz i rows (.tup l)=(.tup (AV.frozs i rows l)):=by simp only [AV.froz]
theorem froz_fn {i:Nat} {rows:List (List AV)} {f:Fn} {l m:List AV}:AV.froz i rows (.fn f l m)=(.fn f (AV.frozs i rows l) (AV.frozs i rows m)):=by simp only [AV.froz]
theorem froz_ifc {i:Nat} {rows:List (List AV)} {t:TypeId} {x:AV}:AV.froz i rows (.ifc t x)=(.ifc t (AV.froz i rows x)):=by simp only [AV.froz]
theorem frozs_nil {i:Nat} {rows:List (List AV)}:AV.frozs i rows []=[]:=id rfl
theorem frozs_cons {i:Nat} {rows:List (List AV)} {x:AV} {l:List AV}:AV.frozs i rows (x::l)=AV.froz i rows x::AV.frozs i rows l:=by simp only [AV.frozs]
theorem froz_dead {i:Nat} {rows:List (List AV)}:Ob.froz i rows .dead = .dead:=id rfl
theorem froz_arr {i:Nat} {rows rs:List (List AV)} {T:TypeId} {k:Nat}:Ob.froz i rows (.arr T k true rs) = .arr T k true rs:=id rfl
end
def mutQ (P:Program) (rs:List ResultVar) (T:TypeId) (k:Nat) (R:AV→List (List AV)→Prop):Exit→St→Prop
 | .normal,s=>resW P s rs fun xs=>∃ rows',s.hp[0]?=some (.arr T k true rows')∧(asOne xs).flat=true∧R (asOne xs) rows'
 | .ret,s=>resW P s rs fun xs=>∃ rows',s.hp[0]?=some (.arr T k true rows')∧(asOne xs).flat=true∧R (asOne xs) rows'
 | _,_=>False
def AV.ren (i:Nat):AV→AV
 | .sref 0 off n => .sref i off n
 | x=>x
def AV.okR (x:AV):Prop:=x.pure=true∨∃ off n,x = .sref 0 off n
theorem ren_flat {x:AV} (h:x.flat=true) (i:Nat):x.ren i=x:=by
 unfold AV.ren
 split
 ·simp [AV.flat] at h
 ·rfl
theorem ren_pure {x:AV} (h:x.pure=true) (i:Nat):x.ren i=x:=by
 unfold AV.ren
 split
 ·simp [AV.pure] at h
 ·rfl
theorem flats_pure:∀ {l:List AV},(l.all fun x=>match x with | .int _ _ | .bool _ | .str _ | .und | .nilp | .nilif | .nilfn | .nilmp | .nils=>true | _=>false)=true→AV.pures l=true
 | [],_=>rfl
 | x::l,h=>by
  simp only [List.all_cons,Bool.and_eq_true] at h
  rw [AV.pures,flats_pure h.2,Bool.and_true]
  have:=h.1
  cases x <;> first | rfl | simp at this
theorem flat_pure {x:AV} (h:x.flat=true):x.pure=true:=by
 cases x with
 | tup l=>exact flats_pure h
 | _=>first | rfl | simp [AV.flat] at h
def mutQ2 (P:Program) (rs:List ResultVar) (T:TypeId) (k:Nat) (R:AV→List (List AV)→Prop):Exit→St→Prop
 | .normal,s=>resW P s rs fun xs=>∃ rows',s.hp[0]?=some (.arr T k true rows')∧(asOne xs).okR∧R (asOne xs) rows'
 | .ret,s=>resW P s rs fun xs=>∃ rows',s.hp[0]?=some (.arr T k true rows')∧(asOne xs).okR∧R (asOne xs) rows'
 | _,_=>False
theorem call_mut2 {P:Program} {pins:List Nat} {g:FuncId} {fn:Func} {c:Code} (hf:P.funcs[g]?=some fn) (hb:fn.body=some c) {rs:List ResultVar} (hrs:fn.results.toList=rs) {nt:Nat} (hn:fn.ntmps=nt) (hn0:0<nt)
  {s:St} {i off n:Nat} {rest:List AV} {T:TypeId} {k:Nat} {rows:List (List AV)} (hi:s.hp[i]?=some (.arr T k true rows)) (hpure:AV.pures rest=true) {R:AV→List (List AV)→Prop}
  (h:W P [0] c (mutQ2 P rs T k R) ⟨.sref 0 off n::AV.datas rest++List.replicate (nt-(rest.length+1)) .und,(List.replicate nt .dead).set 0 (.arr T k true rows)⟩)
  {K:AV→St→Prop} (hk:∀ r rows',R r rows'→K (r.ren i) (s.seth i (.arr T k true rows'))):CallOk P pins g (.sref i off n::rest) s K:=by
 subst hrs;subst hn
 intro fr ρ a w vals hp hr hv
 have hil:i<s.hp.length:=(List.getElem?_eq_some_iff.1 hi).1
 have hob:=hr.heap i
 rw [show s.hp.getD i .dead = .arr T k true rows by simp [List.getD_eq_getElem?_getD,hi]] at hob
 simp only [Rps] at hv
 obtain ⟨v0,vs,rfl,hv0,hvs⟩:=hv
 have hvs':=Rps.data rest (Rps.pure noPl rest hpure hvs)
 obtain ⟨p,hpl⟩:∃ p,ρ i=some p:=by
  cases hpi:ρ i with
  | none=>rw [hpi] at hob;exact hob.elim
  | some p=>exact ⟨p,rfl⟩
 let M:Nat→Prop:=fun b=>p.block=some b
 let ρ0:Pl:=fun j=>if j=0 then some p else none
 let fr':Fr:=⟨w.heap.size,w,fun b=>Av fr.F ρ b∧¬ M b,M,[0],ρ0,fun _ h=>h.2⟩
 have hav:∀ b,Av fr'.F ρ0 b↔Av fr.F ρ b:=by
  intro b
  constructor
  ·rintro (h1 | ⟨j,q,h1,h2⟩)
   ·exact h1.1
   ·have:j=0:=by
     by_cases hj:j=0
     ·exact hj
     ·simp [ρ0,hj] at h1
    subst this
    simp [ρ0] at h1
    subst h1
    exact .inr ⟨i,p,hpl,h2⟩
  ·intro h1
   by_cases hM:M b
   ·exact .inr ⟨0,p,by simp [ρ0],hM⟩
   ·exact .inl ⟨h1,hM⟩
 have hMlt:∀ b,M b→b<w.heap.size:=fun b hb=>hr.lt hpl hb
 have hvl:=hvs.length
 refine calls_of_wp hf hb ?_
 have hlatF:Later w (Av fr.F ρ) noPl w (Av fr'.F ρ0) noPl:=⟨Nat.le_refl _,fun b _ hb=>(hav b).1 hb,fun _ _ _=>rfl,fun _ _ h=>h⟩
 have hob0:HRo w (Av fr'.F ρ0) ρ0 (.arr T k true rows) (some p):=by
  rw [hpl] at hob
  cases p with
  | nil=>exact hob
  | mapb b=>exact hob.elim
  | blk b s' cap len =>
   obtain ⟨h1,h2,vss,rst,h3,h4,h5⟩:=hob
   exact ⟨h1,h2,vss,rst,h3,RpR.later _ hlatF h4,h5⟩
 have hrep:Rep fr' ρ0 ⟨.sref 0 off n::AV.datas rest++List.replicate (fn.ntmps-(rest.length+1)) .und,(List.replicate fn.ntmps .dead).set 0 (.arr T k true rows)⟩ { tmps:=(v0::vs).toArray++Array.replicate (fn.ntmps-(v0::vs).toArray.size) undef,defers:=[] } w:=by
  refine { keep:=⟨rfl,rfl,rfl,Nat.le_refl _,fun _ _ _=>rfl⟩,base:=Nat.le_refl _,defers:=rfl,heap:=fun j=>?_,inj:=?_,mine:=?_,fF:=?_,pin:=?_,env:=?_ }
  ·by_cases hj:j=0
   ·subst hj
    rw [show ((List.replicate fn.ntmps Ob.dead).set 0 (.arr T k true rows)).getD 0 .dead = .arr T k true rows by simp [List.getD_eq_getElem?_getD,hn0]]
    simpa [ρ0] using hob0
   ·rw [show ((List.replicate fn.ntmps Ob.dead).set 0 (.arr T k true rows)).getD j .dead = .dead by
     rw [List.getD_eq_getElem?_getD,List.getElem?_set_ne (by omega),List.getElem?_replicate];split <;> rfl]
    show ρ0 j=none
    simp [ρ0,hj]
  ·intro j l q r b h1 h2 _ _
   have e1:j=0:=by
    by_cases hj:j=0
    ·exact hj
    ·simp [ρ0,hj] at h1
   have e2:l=0:=by
    by_cases hj:l=0
    ·exact hj
    ·simp [ρ0,hj] at h2
   rw [e1,e2]
  ·intro j q b h1 h2
   have e1:j=0:=by
    by_cases hj:j=0
    ·exact hj
    ·simp [ρ0,hj] at h1
   subst e1
   simp [ρ0] at h1
   subst h1
   exact .inr h2
  ·intro b hb
   rcases hb.1 with h1 | ⟨j,q,h1,h2⟩
   ·exact Nat.lt_of_lt_of_le (hr.fF b h1) hr.base
   ·exact hr.lt h1 h2
  ·intro j hj
   simp [fr'] at hj
   subst hj
   exact ⟨rfl,by simp [ρ0]⟩
  ·show Rps w (Av fr'.F ρ0) ρ0 _ _
   have h1:((v0::vs).toArray++Array.replicate (fn.ntmps-(v0::vs).toArray.size) undef).toList=v0::vs++List.replicate (fn.ntmps-(rest.length+1)) undef:=by
    simp [hvl]
   rw [h1]
   have hv0':Rp w (Av fr'.F ρ0) ρ0 (.sref 0 off n) v0:=by
    simp only [Rp] at hv0 ⊢
    rw [hpl] at hv0
    simpa [ρ0] using hv0
   have hvs2:Rps w (Av fr'.F ρ0) ρ0 (AV.datas rest) vs:=Rps.pure' (hvs'.later _ hlatF) ρ0
   refine Rps.append (l := .sref 0 off n::AV.datas rest) (by simp only [Rps];exact ⟨v0,vs,rfl,hv0',hvs2⟩) (Rps.mk (by simp) fun j x u hx hu=>?_)
   rw [List.getElem?_replicate] at hx hu
   split at hx
   ·rename_i hj;rw [if_pos hj] at hu;cases hx;cases hu;simp only [Rp]
   ·cases hx
 refine Code.wp_mono (fun e a' w' he=>?_) (h fr' ρ0 _ w rfl hrep)
 obtain ⟨s',ρ',hq,hr'⟩:=he
 have fin:resW P s' fn.results.toList (fun xs=>∃ rows',s'.hp[0]?=some (.arr T k true rows')∧(asOne xs).okR∧R (asOne xs) rows')→a'.defers=[]∧∃ v,(results fn a'.tmps).run P w' = .ok v w' ∧
   ∃ v2 x s2 ρ2,Ending.returned v = .returned v2∧K x s2∧Rep fr ρ2 s2 a w'∧Rp w' (Av fr.F ρ2) ρ2 x v2:=by
  intro hq
  obtain ⟨xs,v,⟨rows',h1,h2,h3⟩,h4,h5⟩:=results_sound hr' fn hq
  have hp0:ρ' 0=some p:=by
   have:=(hr'.pin 0 (by simp [fr'])).1
   simpa [fr',ρ0] using this
  have hav':∀ b,Av fr.F ρ b→Av fr'.F ρ' b:=by
   intro b hb
   by_cases hM:M b
   ·exact .inr ⟨0,p,hp0,hM⟩
   ·exact .inl ⟨hb,hM⟩
  refine ⟨hr'.defers,v,h4,v,(asOne xs).ren i,s.seth i (.arr T k true rows'),ρ,rfl,hk _ _ h3,?_,?_⟩;rotate_left
  ·rcases h2 with h2 | ⟨off',n',h2⟩
   ·rw [ren_pure h2]
    exact Rp.pure ρ _ h2 ((Rp.pure noPl _ h2 h5).later (A':=Av fr.F ρ) (ρ':=noPl) _ ⟨Nat.le_refl _,fun b _ hb=>hav' b hb,fun _ _ _=>rfl,fun _ _ h=>h⟩)
   ·rw [h2] at h5 ⊢
    simp only [AV.ren,Rp] at h5 ⊢
    rw [hp0] at h5
    rw [hpl]
    exact h5
  have hsz:w.heap.size≤w'.heap.size:=hr'.keep.size
  have hblk:∀ b,b<w.heap.size→¬ M b→w'.heap[b]?=w.heap[b]?:=fun b h1 h2=>hr'.keep.block b h1 h2
  have hMA:∀ b,M b→Av fr.F ρ b:=fun b hb => .inr ⟨i,p,hpl,hb⟩
  have hlat:Later w (Av fr.F ρ) ρ w' (Av fr.F ρ) ρ:=⟨hsz,fun _ _ h=>h,fun b h1 h2=>hblk b h1 fun hM=>h2 (hMA b hM),fun _ _ h=>h⟩
  have ho':=hr'.heap 0
  rw [show s'.hp.getD 0 .dead = .arr T k true rows' by simp [List.getD_eq_getElem?_getD,h1],hp0] at ho'
  refine { keep:=⟨hr'.keep.os.trans hr.keep.os,hr'.keep.tape.trans hr.keep.tape,hr'.keep.output.trans hr.keep.output,Nat.le_trans hr.keep.size hsz,fun b hb hm=>?_⟩,base:=Nat.le_trans hr.base hsz,defers:=hr.defers,heap:=fun j=>?_,inj:=hr.inj,mine:=hr.mine,fF:=hr.fF,pin:=hr.pin,env:=hr.env.later _ hlat }
  ·rw [hblk b (Nat.lt_of_lt_of_le hb hr.base)]
   ·exact hr.keep.block b hb hm
   ·intro hM
    rcases hr.mine i p b hpl hM with h6 | h6
    ·omega
    ·exact hm h6
  ·by_cases hj:j=i
   ·subst hj
    rw [show (s.seth j (.arr T k true rows')).hp.getD j .dead = .arr T k true rows' by simp [St.seth,List.getD_eq_getElem?_getD,hil],hpl]
    cases p with
    | nil=>exact ho'
    | mapb b=>exact ho'.elim
    | blk b s2 cap len =>
     obtain ⟨g1,g2,vss,rst,g3,g4,g5⟩:=ho'
     refine ⟨g1,g2,vss,rst,g3,RpR.later (ρ:=noPl) _ ⟨Nat.le_refl _,fun b _ hb=>hav' b hb,fun _ _ _=>rfl,fun _ _ h=>h⟩ g4,g5⟩
   ·rw [show (s.seth i (.arr T k true rows')).hp.getD j .dead=s.hp.getD j .dead by
     simp only [St.seth,List.getD_eq_getElem?_getD,List.getElem?_set_ne (Ne.symm hj)]]
    refine (hr.heap j).later hlat fun q b hq hqb=>hblk b (hr.lt hq hqb) fun hM=>?_
    exact hj (hr.inj j i q p b hq hpl hqb hM)
 cases e with
 | normal=>exact fin hq
 | ret=>exact fin hq
 | _=>exact hq.elim
theorem resW_mono {P:Program} {s:St}:∀ {rs:List ResultVar} {K K':List AV→Prop},resW P s rs K→(∀ xs,K xs→K' xs)→resW P s rs K'
 | [],K,K',h,hk=>by simp only [resW] at h ⊢;exact hk _ h
 | r::rs,K,K',h,hk=>by
  simp only [resW] at h ⊢
  cases r with
  | tmp t=>simp only [resV] at h ⊢;exact resW_mono h fun xs=>hk _
  | cell ad t =>
   simp only [resV] at h ⊢
   refine ⟨h.1,h.2.1,?_⟩
   have h3:=h.2.2
   generalize s.env.getD ad .any=x at h3 ⊢
   unfold loadW at h3 ⊢
   split at h3
   ·exact ⟨h3.1,resW_mono h3.2 fun xs=>hk _⟩
   ·split at h3
    ·rename_i heq;simp only [heq] at *;exact ⟨h3.1,h3.2.1,resW_mono h3.2.2 fun xs=>hk _⟩
    ·exact h3.elim
   ·exact h3.elim
theorem call_mut {P:Program} {pins:List Nat} {g:FuncId} {fn:Func} {c:Code} (hf:P.funcs[g]?=some fn) (hb:fn.body=some c) {rs:List ResultVar} (hrs:fn.results.toList=rs) {nt:Nat} (hn:fn.ntmps=nt) (hn0:0<nt)
  {s:St} {i off n:Nat} {rest:List AV} {T:TypeId} {k:Nat} {rows:List (List AV)} (hi:s.hp[i]?=some (.arr T k true rows)) (hpure:AV.pures rest=true) {R:AV→List (List AV)→Prop}
  (h:W P [0] c (mutQ P rs T k R) ⟨.sref 0 off n::AV.datas rest++List.replicate (nt-(rest.length+1)) .und,(List.replicate nt .dead).set 0 (.arr T k true rows)⟩)
  {K:AV→St→Prop} (hk:∀ r rows',R r rows'→K r (s.seth i (.arr T k true rows'))):CallOk P pins g (.sref i off n::rest) s K:=by
 have hres:∀ s',resW P s' rs (fun xs=>∃ rows',s'.hp[0]?=some (.arr T k true rows')∧(asOne xs).flat=true∧R (asOne xs) rows')→resW P s' rs (fun xs=>∃ rows',s'.hp[0]?=some (.arr T k true rows')∧(asOne xs).okR∧((asOne xs).flat=true∧R (asOne xs) rows')) :=
  fun s' h=>resW_mono h fun xs ⟨rows',h1,h2,h3⟩=>⟨rows',h1,.inl (flat_pure h2),h2,h3⟩
 refine call_mut2 (R:=fun r rows'=>r.flat=true∧R r rows') hf hb hrs hn hn0 hi hpure (h.mono fun e s' he=>?_) fun r rows' hr=>?_
 ·cases e with
  | normal=>exact hres s' he
  | ret=>exact hres s' he
  | _=>exact he.elim
 ·rw [ren_flat hr.1]
  exact hk r rows' hr.2
end Go.Proofs.YtjmkfbhecgkbmaaGreat.Vm
namespace Go.Proofs.YtjmkfbhecgkbmaaGreat.Vm
open Go Go.RowKit
def NewA (base:Nat) (w:World) (F:Nat→Prop) (T:TypeId) (k:Nat) (rows:List (List AV)) (v:Value):Prop :=
 (v = .slice none 0 0∧rows=[])∨∃ b cap,base≤b∧v = .slice (some ⟨b,0,none⟩) rows.length cap∧Holds w (fun c=>F c∨c=b) noPl T rows b k cap
def New (P:Program) (g:FuncId) (args:List AV) (T:TypeId) (k:Nat) (R:List (List AV)→Prop):Prop :=
 ∀ (w:World) (vals:List Value) (F:Nat→Prop),(∀ k,F k→k<w.heap.size)→Rps w F noPl args vals →
  Calls P g vals.toArray w fun e w'=>∃ v rows,e = .returned v∧R rows∧Below w.heap.size w w'∧NewA w.heap.size w' F T k rows v
def newK (T:TypeId) (k:Nat) (R:List (List AV)→Prop) (hp:List Ob):AV→Prop
 | .nils=>R []
 | .sref i off n=>∃ rows,off=0∧n=rows.length∧hp[i]?=some (.arr T k true rows)∧R rows
 | _=>False
def newQ (P:Program) (rs:List ResultVar) (T:TypeId) (k:Nat) (R:List (List AV)→Prop):Exit→St→Prop
 | .normal,s=>resW P s rs fun xs=>newK T k R s.hp (asOne xs)
 | .ret,s=>resW P s rs fun xs=>newK T k R s.hp (asOne xs)
 | _,_=>False
theorem new_of_W {P:Program} {g:FuncId} {fn:Func} {c:Code} {args:List AV} {T:TypeId} {k:Nat} {R:List (List AV)→Prop} (hf:P.funcs[g]?=some fn) (hb:fn.body=some c) {rs:List ResultVar} (hrs:fn.results.toList=rs) {nt:Nat} (hn:fn.ntmps=nt)
  (h:W P [] c (newQ P rs T k R) ⟨args++List.replicate (nt-args.length) .und,List.replicate nt .dead⟩):New P g args T k R:=by
 subst hrs;subst hn
 intro w vals F hF hv
 have hlen:=hv.length
 refine calls_of_wp hf hb ?_
 let fr:Fr:=⟨w.heap.size,w,F,fun _=>False,[],noPl,fun _ _ h=>h⟩
 have hA:Av F noPl=F:=by
  funext k
  simp [Av,noPl]
 have hrep:Rep fr noPl ⟨args++List.replicate (fn.ntmps-args.length) .und,List.replicate fn.ntmps .dead⟩ { tmps:=vals.toArray++Array.replicate (fn.ntmps-vals.toArray.size) undef,defers:=[] } w:=by
  refine { keep:=⟨rfl,rfl,rfl,Nat.le_refl _,fun _ _ _=>rfl⟩,base:=Nat.le_refl _,defers:=rfl,heap:=fun i=>?_,inj:=(fun i j p q b hi=>by cases hi),mine:=(fun i p b hi=>by cases hi),fF:=hF,pin:=(fun i hi=>by cases hi),env:=?_ }
  ·show HRo _ _ _ ((List.replicate fn.ntmps Ob.dead).getD i .dead) _
   rw [show (List.replicate fn.ntmps Ob.dead).getD i .dead = .dead by
    rw [List.getD_eq_getElem?_getD,List.getElem?_replicate];split <;> rfl]
   rfl
  ·show Rps w (Av F noPl) noPl _ _
   rw [hA]
   have h1:(vals.toArray++Array.replicate (fn.ntmps-vals.toArray.size) undef).toList=vals++List.replicate (fn.ntmps-args.length) undef:=by
    simp [hlen]
   rw [h1]
   refine hv.append (Rps.mk (by simp) fun i x v hx hv=>?_)
   rw [List.getElem?_replicate] at hx hv
   split at hx
   ·rename_i hi;rw [if_pos hi] at hv;cases hx;cases hv;simp only [Rp]
   ·cases hx
 refine Code.wp_mono (fun e a' w' he=>?_) (h fr noPl _ w rfl hrep)
 obtain ⟨s,ρ,hq,hr⟩:=he
 have fin:resW P s fn.results.toList (fun xs=>newK T k R s.hp (asOne xs))→a'.defers=[]∧∃ v,(results fn a'.tmps).run P w' = .ok v w'∧∃ v2 rows,Ending.returned v = .returned v2∧R rows∧Below w.heap.size w w'∧NewA w.heap.size w' F T k rows v2:=by
  intro hk
  obtain ⟨xs,v,h1,h2,h3⟩:=results_sound hr fn hk
  have hbel:Below w.heap.size w w':=⟨hr.keep.os,hr.keep.tape,hr.keep.output,hr.keep.size,fun k hk=>hr.keep.block k hk (fun h=>h)⟩
  refine ⟨hr.defers,v,h2,?_⟩
  cases hx:asOne xs with
  | nils =>
   rw [hx] at h1 h3
   simp only [Rp] at h3
   exact ⟨v,[],rfl,h1,hbel,.inl ⟨h3,rfl⟩⟩
  | sref i off n =>
   rw [hx] at h1 h3
   obtain ⟨rows,rfl,rfl,hi,hR⟩:=h1
   have ho:=hr.heap i
   rw [show s.hp.getD i .dead = .arr T k true rows by simp [List.getD_eq_getElem?_getD,hi]] at ho
   simp only [Rp] at h3
   rcases h3 with ⟨g1,g2,g3,g4⟩ | ⟨b,s',cap,len,x,g1,g2,g3,g4⟩
   ·exact ⟨v,rows,rfl,hR,hbel,.inl ⟨g4,List.eq_nil_of_length_eq_zero g3⟩⟩
   ·rw [g1] at ho
    obtain ⟨e1,e2,vss,rest,e3,e4,e5⟩:=ho
    subst e1
    have hx0:=g4 (.inr trivial)
    rw [Nat.zero_mul] at hx0
    subst hx0
    refine ⟨v,rows,rfl,hR,hbel,.inr ⟨b,cap,?_,by rw [g3,Nat.sub_zero],vss,rest,e3,?_,e5⟩⟩
    ·rcases hr.mine i _ b g1 rfl with h4 | h4
     ·exact h4
     ·exact h4.elim
    ·exact RpR.later (ρ:=noPl) _ ⟨Nat.le_refl _,fun c _ hc=>by
      rcases hc with hc | rfl
      ·exact .inl hc
      ·exact .inr ⟨i,_,g1,rfl⟩,fun _ _ _=>rfl,fun _ _ h=>h⟩ e4
  | _=>rw [hx] at h1;exact h1.elim
 cases e with
 | normal=>exact fin hq
 | ret=>exact fin hq
 | _=>exact hq.elim
theorem Rep.adopt {fr:Fr} {ρ:Pl} {s:St} {a:Act} {w w':World} (h0:Rep fr ρ s a w) (hbel:Below w.heap.size w w') {d:Nat} (hd:s.hp[d]?=some .dead) {T:TypeId} {k:Nat} {rows:List (List AV)} {v:Value}
  (hn:NewA w.heap.size w' (Av fr.F ρ) T k rows v):∃ ρ',Rep fr ρ' ⟨s.env,s.hp.set d (.arr T k true rows)⟩ a w'∧Rp w' (Av fr.F ρ') ρ' (.sref d 0 rows.length) v:=by
 obtain ⟨h,hlat0⟩:=h0.below hbel
 have hdl:d<s.hp.length:=(List.getElem?_eq_some_iff.1 hd).1
 have hρd:ρ d=none:=by
  have:=h.heap d
  rw [show s.hp.getD d .dead = .dead by simp [List.getD_eq_getElem?_getD,hd]] at this
  exact this
 rcases hn with ⟨rfl,rfl⟩ | ⟨b,cap,hb,rfl,vss,rest,e1,e2,e3,e4,e5,e6⟩
 ·have hav:∀ k',Av fr.F (ρ.put d (some .nil)) k'→Av fr.F ρ k':=by
   rintro k' (h1 | ⟨i,p,h1,h2⟩)
   ·exact .inl h1
   ·by_cases hi:i=d
    ·subst hi;rw [Pl.put_same] at h1;cases h1;simp [Place.block] at h2
    ·rw [Pl.put_ne _ _ hi] at h1;exact .inr ⟨i,p,h1,h2⟩
  have hlat:Later w' (Av fr.F ρ) ρ w' (Av fr.F (ρ.put d (some .nil))) (ρ.put d (some .nil)) :=
   ⟨Nat.le_refl _,fun k' _=>hav k',fun _ _ _=>rfl,fun i p hp=>by
    by_cases hi:i=d
    ·subst hi;rw [hρd] at hp;cases hp
    ·rw [Pl.put_ne _ _ hi];exact hp⟩
  refine ⟨ρ.put d (some .nil),{ keep:=h.keep,base:=h.base,defers:=h.defers,heap:=fun i=>?_,inj:=?_,mine:=?_,fF:=h.fF,pin:=fun i hi=>?_,env:=h.env.later _ hlat },?_⟩
  ·by_cases hi:i=d
   ·subst hi
    rw [getD_set_same _ _ _ _ hdl,Pl.put_same]
    rfl
   ·show HRo _ _ _ ((s.hp.set d (.arr T k true [])).getD i .dead) _
    rw [getD_set_other _ _ _ _ _ hi,Pl.put_ne _ _ hi]
    exact (h.heap i).later hlat fun q b hq hb=>rfl
  ·intro i j p q b hi hj hp hq
   by_cases hid:i=d
   ·subst hid;rw [Pl.put_same] at hi;cases hi;simp [Place.block] at hp
   ·by_cases hjd:j=d
    ·subst hjd;rw [Pl.put_same] at hj;cases hj;simp [Place.block] at hq
    ·rw [Pl.put_ne _ _ hid] at hi;rw [Pl.put_ne _ _ hjd] at hj;exact h.inj i j p q b hi hj hp hq
  ·intro i p b hi hp
   by_cases hid:i=d
   ·subst hid;rw [Pl.put_same] at hi;cases hi;simp [Place.block] at hp
   ·rw [Pl.put_ne _ _ hid] at hi;exact h.mine i p b hi hp
  ·by_cases hid:i=d
   ·subst hid;exact absurd hρd (h.pin i hi).2
   ·rw [Pl.put_ne _ _ hid];exact h.pin i hi
  ·simp only [Rp,Pl.put_same]
   exact .inl ⟨trivial,trivial,rfl,trivial⟩
 ·let p0:Place := .blk b k cap rows.length
  have hbw:b<w'.heap.size:=(Array.getElem?_eq_some_iff.1 e1).1
  have hnew:∀ i q c,ρ i=some q→q.block=some c→c<w.heap.size:=fun i q c hq hc=>h0.lt hq hc
  have hav:∀ k',k'<w'.heap.size→k'≠b→Av fr.F (ρ.put d (some p0)) k'→Av fr.F ρ k':=by
   rintro k' _ hkb (h1 | ⟨i,p,h1,h2⟩)
   ·exact .inl h1
   ·by_cases hi:i=d
    ·subst hi;rw [Pl.put_same] at h1;cases h1;simp [Place.block,p0] at h2;omega
    ·rw [Pl.put_ne _ _ hi] at h1;exact .inr ⟨i,p,h1,h2⟩
  have hlat:Later w (Av fr.F ρ) ρ w' (Av fr.F (ρ.put d (some p0))) (ρ.put d (some p0)) :=
   ⟨hbel.size,fun k' hk'=>hav k' (Nat.lt_of_lt_of_le hk' hbel.size) (by omega),fun k' hk' _=>hbel.block k' hk',fun i p hp=>by
    by_cases hi:i=d
    ·subst hi;rw [hρd] at hp;cases hp
    ·rw [Pl.put_ne _ _ hi];exact hp⟩
  refine ⟨ρ.put d (some p0),{ keep:=h.keep,base:=h.base,defers:=h.defers,heap:=fun i=>?_,inj:=?_,mine:=?_,fF:=h.fF,pin:=fun i hi=>?_,env:=h0.env.later _ hlat },?_⟩
  ·by_cases hi:i=d
   ·subst hi
    rw [getD_set_same _ _ _ _ hdl,Pl.put_same]
    refine ⟨rfl,rfl,vss,rest,e1,RpR.later (ρ:=noPl) _ ⟨Nat.le_refl _,fun c hc hc2=>?_,fun _ _ _=>rfl,fun _ _ h=>h⟩ e2,e3,e4,e5,e6⟩
    by_cases hcb:c=b
    ·exact .inr hcb
    ·exact .inl (hav c hc hcb hc2)
   ·show HRo _ _ _ ((s.hp.set d (.arr T k true rows)).getD i .dead) _
    rw [getD_set_other _ _ _ _ _ hi,Pl.put_ne _ _ hi]
    exact (h0.heap i).later hlat fun q c hq hc=>hbel.block c (h0.lt hq hc)
  ·intro i j p q c hi hj hp hq
   by_cases hid:i=d
   ·by_cases hjd:j=d
    ·rw [hid,hjd]
    ·subst hid
     rw [Pl.put_same] at hi
     cases hi
     rw [Pl.put_ne _ _ hjd] at hj
     simp [Place.block,p0] at hp
     have:=hnew _ _ _ hj hq
     omega
   ·rw [Pl.put_ne _ _ hid] at hi
    by_cases hjd:j=d
    ·subst hjd
     rw [Pl.put_same] at hj
     cases hj
     simp [Place.block,p0] at hq
     have:=hnew _ _ _ hi hp
     omega
    ·rw [Pl.put_ne _ _ hjd] at hj
     exact h.inj i j p q c hi hj hp hq
  ·intro i p c hi hp
   by_cases hid:i=d
   ·subst hid
    rw [Pl.put_same] at hi
    cases hi
    simp [Place.block,p0] at hp
    subst hp
    exact .inl (Nat.le_trans h0.base hb)
   ·rw [Pl.put_ne _ _ hid] at hi
    exact h.mine i p c hi hp
  ·by_cases hid:i=d
   ·subst hid;exact absurd hρd (h.pin i hi).2
   ·rw [Pl.put_ne _ _ hid];exact h.pin i hi
  ·simp only [Rp,Pl.put_same]
   exact .inr ⟨b,k,cap,rows.length,0,rfl,by omega,by simp,fun _=>by simp⟩
theorem call_new {P:Program} {pins:List Nat} {g:FuncId} {avs:List AV} {s:St} {K:AV→St→Prop} {T:TypeId} {k:Nat} {R:List (List AV)→Prop} (d:Nat) (hd:s.hp[d]?=some .dead) (ha:AV.pures avs=true) (hnew:New P g (AV.datas avs) T k R)
  (hk:∀ rows,R rows→K (.sref d 0 rows.length) (s.seth d (.arr T k true rows))):CallOk P pins g avs s K:=by
 intro fr ρ a w vals hp hr hv
 refine (hnew w vals (Av fr.F ρ) ?_ (Rps.data avs (Rps.pure noPl avs ha hv))).mono fun e w' he=>?_
 ·rintro k (hk | ⟨i,p,h1,h2⟩)
  ·exact Nat.lt_of_lt_of_le (hr.fF k hk) hr.base
  ·exact hr.lt h1 h2
 obtain ⟨v,rows,h1,h2,h3,h4⟩:=he
 obtain ⟨ρ',h5,h6⟩:=hr.adopt h3 hd h4
 exact ⟨v,_,_,ρ',h1,hk rows h2,h5,h6⟩
theorem New.pure {P:Program} {g:FuncId} {args:List AV} {T:TypeId} {k:Nat} {R:List (List AV)→Prop} (h:New P g args T k R):Pure P g args (fun r=>∃ rows,R rows∧r = .sl rows):=by
 intro w vals F hF hv
 refine (h w vals F hF hv).mono fun e w' he=>?_
 obtain ⟨v,rows,h1,h2,h3,h4⟩:=he
 refine ⟨v,.sl rows,h1,⟨rows,h2,rfl⟩,h3,?_⟩
 simp only [Rp]
 rcases h4 with ⟨rfl,rfl⟩ | ⟨b,cap,hb,rfl,vss,rest,e1,e2,e3,e4,e5,e6⟩
 ·exact ⟨none,0,by simp,by simp,by simp [maxLen],.inl rfl⟩
 ·refine ⟨_,cap,rfl,e5,e6,.inr ⟨b,0,vss,rfl,fun hFb=>?_,(Array.getElem?_eq_some_iff.1 e1).1,?_,RpR.later (ρ:=noPl) _ ⟨Nat.le_refl _,fun c _ hc => .inl hc,fun _ _ _=>rfl,fun _ _ h=>h⟩ e2⟩⟩
  ·have:=hF b hFb
   omega
  ·intro j u hj
   have h5:=(List.getElem?_eq_some_iff.1 hj).1
   simp only [World.cell?,Nat.zero_add]
   rw [e1]
   simp [List.getElem?_append_left h5,hj]
def Mut (P:Program) (g:FuncId) (T:TypeId) (k:Nat) (rows:List (List AV)) (off n:Nat) (rest:List AV) (R:AV→List (List AV)→Prop):Prop :=
 ∃ fn c,P.funcs[g]?=some fn∧fn.body=some c∧0<fn.ntmps ∧
  W P [0] c (mutQ P fn.results.toList T k R) ⟨.sref 0 off n::AV.datas rest++List.replicate (fn.ntmps-(rest.length+1)) .und,(List.replicate fn.ntmps .dead).set 0 (.arr T k true rows)⟩
theorem mut_of_W {P:Program} {g:FuncId} {fn:Func} {c:Code} {T:TypeId} {k:Nat} {rows:List (List AV)} {off n:Nat} {rest:List AV} {R:AV→List (List AV)→Prop} (hf:P.funcs[g]?=some fn) (hb:fn.body=some c) {rs:List ResultVar} (hrs:fn.results.toList=rs) {nt:Nat} (hn:fn.ntmps=nt) (hn0:0<nt)
  (h:W P [0] c (mutQ P rs T k R) ⟨.sref 0 off n::AV.datas rest++List.replicate (nt-(rest.length+1)) .und,(List.replicate nt .dead).set 0 (.arr T k true rows)⟩):Mut P g T k rows off n rest R:=by
 subst hrs;subst hn
 exact ⟨fn,c,hf,hb,hn0,h⟩
theorem call_mutC {P:Program} {pins:List Nat} {g:FuncId} {s:St} {i off n:Nat} {rest:List AV} {T:TypeId} {k:Nat} {rows:List (List AV)} {R:AV→List (List AV)→Prop} (hm:Mut P g T k rows off n rest R) (hi:s.hp[i]?=some (.arr T k true rows)) (hpure:AV.pures rest=true)
  {K:AV→St→Prop} (hk:∀ r rows',R r rows'→K r (s.seth i (.arr T k true rows'))):CallOk P pins g (.sref i off n::rest) s K:=by
 obtain ⟨fn,c,hf,hb,hn0,h⟩:=hm
 exact call_mut hf hb rfl rfl hn0 hi hpure h hk
def live (hp:List Ob) (i:Nat):Bool:=match hp.getD i .dead with | .dead=>false | _=>true
mutual
def AV.named (hp:List Ob):AV→Bool
 | .sref j _ _=>live hp j
 | .ptr j _ _=>live hp j
 | .mp j=>live hp j
 | .it j=>live hp j
 | .agg cs=>AV.nameds hp cs
 | .tup cs=>AV.nameds hp cs
 | .fn _ fs cs=>AV.nameds hp fs&&AV.nameds hp cs
 | .ifc _ x=>AV.named hp x
 | _=>true
def AV.nameds (hp:List Ob):List AV→Bool
 | []=>true
 | x::xs=>AV.named hp x&&AV.nameds hp xs
end
structure Fewer (hp:List Ob) (w:World) (A:Nat→Prop) (ρ:Pl) (A':Nat→Prop) (ρ':Pl):Prop where
 av:∀ k,A' k→A k
 pl:∀ j,live hp j=true→ρ' j=ρ j
theorem Fewer.later {hp:List Ob} {w:World} {A:Nat→Prop} {ρ:Pl} {A':Nat→Prop} {ρ':Pl} (h:Fewer hp w A ρ A' ρ'):Later w A noPl w A' noPl :=
 ⟨Nat.le_refl _,fun k _ hk=>h.av k hk,fun _ _ _=>rfl,fun _ _ h=>by cases h⟩
mutual
theorem Rp.named {hp:List Ob} {w:World} {A A':Nat→Prop} {ρ ρ':Pl} (hl:Fewer hp w A ρ A' ρ'):∀ (x:AV) {v:Value},x.named hp=true→Rp w A ρ x v→Rp w A' ρ' x v
 | .any,_,_,h=>by simp only [Rp]
 | .und,_,_,h=>by simpa only [Rp] using h
 | .int _ _,_,_,h=>by simpa only [Rp] using h
 | .bool _,_,_,h=>by simpa only [Rp] using h
 | .str _,_,_,h=>by simpa only [Rp] using h
 | .nils,_,_,h=>by simpa only [Rp] using h
 | .nilp,_,_,h=>by simpa only [Rp] using h
 | .nilfn,_,_,h=>by simpa only [Rp] using h
 | .nilif,_,_,h=>by simpa only [Rp] using h
 | .gl _,_,_,h=>by simpa only [Rp] using h
 | .nilmp,_,_,h=>by simpa only [Rp] using h
 | .sl rows,_,_,h=>by
  have:=Rp.later (ρ:=noPl) (ρ':=noPl) (.sl rows) hl.later (by simpa only [Rp] using h)
  simpa only [Rp] using this
 | .ia row off,_,_,h=>by
  have:=Rp.later (ρ:=noPl) (ρ':=noPl) (.ia row off) hl.later (by simpa only [Rp] using h)
  simpa only [Rp] using this
 | .sref j off n,v,hn,h=>by
  simp only [AV.named] at hn
  simp only [Rp] at h ⊢
  rw [hl.pl j hn]
  exact h
 | .ptr j r off,v,hn,h=>by
  simp only [AV.named] at hn
  simp only [Rp] at h ⊢
  rw [hl.pl j hn]
  exact h
 | .mp j,v,hn,h=>by
  simp only [AV.named] at hn
  simp only [Rp] at h ⊢
  rw [hl.pl j hn]
  exact h
 | .it j,v,hn,h=>by
  simp only [AV.named] at hn
  simp only [Rp] at h ⊢
  rw [hl.pl j hn]
  exact h
 | .md clock births rows,_,_,h=>by
  have:=Rp.later (ρ:=noPl) (ρ':=noPl) (.md clock births rows) hl.later (by simpa only [Rp] using h)
  simpa only [Rp] using this
 | .agg cs,v,hn,h=>by
  simp only [AV.named] at hn
  simp only [Rp] at h ⊢
  obtain ⟨vs,h1,h2⟩:=h
  exact ⟨vs,h1,Rps.named hl cs hn h2⟩
 | .tup cs,v,hn,h=>by
  simp only [AV.named] at hn
  simp only [Rp] at h ⊢
  obtain ⟨vs,h1,h2⟩:=h
  exact ⟨vs,h1,Rps.named hl cs hn h2⟩
 | .fn f fs cs,v,hn,h=>by
  simp only [AV.named,Bool.and_eq_true] at hn
  simp only [Rp] at h ⊢
  obtain ⟨us,vs,h1,h2,h3⟩:=h
  exact ⟨us,vs,h1,Rps.named hl fs hn.1 h2,Rps.named hl cs hn.2 h3⟩
 | .ifc t x,v,hn,h=>by
  simp only [AV.named] at hn
  simp only [Rp] at h ⊢
  obtain ⟨y,h1,h2⟩:=h
  exact ⟨y,h1,Rp.named hl x hn h2⟩
theorem Rps.named {hp:List Ob} {w:World} {A A':Nat→Prop} {ρ ρ':Pl} (hl:Fewer hp w A ρ A' ρ'):∀ (l:List AV) {vs:List Value},AV.nameds hp l=true→Rps w A ρ l vs→Rps w A' ρ' l vs
 | [],_,_,h=>by simpa only [Rps] using h
 | x::xs,vs,hn,h=>by
  simp only [AV.nameds,Bool.and_eq_true] at hn
  simp only [Rps] at h ⊢
  obtain ⟨v,us,h1,h2,h3⟩:=h
  exact ⟨v,us,h1,Rp.named hl x hn.1 h2,Rps.named hl xs hn.2 h3⟩
end
theorem RpR.named {hp:List Ob} {w:World} {A A':Nat→Prop} {ρ ρ':Pl} (hl:Fewer hp w A ρ A' ρ'):∀ {l:List (List AV)} {vs:List (List Value)},l.all (AV.nameds hp)=true→RpR w A ρ l vs→RpR w A' ρ' l vs
 | [],_,_,h=>by simpa only [RpR] using h
 | x::xs,vs,hn,h=>by
  simp only [List.all_cons,Bool.and_eq_true] at hn
  simp only [RpR] at h ⊢
  obtain ⟨v,us,h1,h2,h3⟩:=h
  exact ⟨v,us,h1,Rps.named hl x hn.1 h2,h3.named hl hn.2⟩
def leH (pins:List Nat):Nat→List Ob→List Ob→Prop
 | _,[],[]=>True
 | k,x::xs,y::ys=>(x=y∨(y = .dead∧k∉pins))∧leH pins (k+1) xs ys
 | _,_,_=>False
theorem leH_at {pins:List Nat}:∀ {k:Nat} {hp hp':List Ob},leH pins k hp hp'→∀ i,hp.getD i .dead=hp'.getD i .dead∨(hp'.getD i .dead = .dead∧k+i∉pins)
 | _,[],[],_,i => .inl rfl
 | _,[],_::_,h,_=>h.elim
 | _,_::_,[],h,_=>h.elim
 | k,x::xs,y::ys,h,i=>by
  cases i with
  | zero=>simpa using h.1
  | succ i =>
   have:=leH_at h.2 i
   rwa [show k+1+i=k+(i+1) by omega] at this
def obsOk (hp:List Ob):Bool:=hp.all fun o=>match o with
 | .arr _ _ pf rows=>pf || rows.all (AV.nameds hp)
 | .dead=>true
 | .map _ _ _=>true
 | .iter m _ _ _=>AV.named hp m
theorem getD_live {hp:List Ob} {i:Nat} {o:Ob} (h:hp.getD i .dead=o) (h0:o ≠ .dead):hp[i]?=some o:=by
 rw [List.getD_eq_getElem?_getD] at h
 cases hi:hp[i]? with
 | none=>rw [hi] at h;exact absurd h.symm h0
 | some x=>rw [hi] at h;exact congrArg some h
theorem Rep.drop {fr:Fr} {ρ:Pl} {a:Act} {w:World} {e e':List AV} {hp hp':List Ob} (hr:Rep fr ρ ⟨e,hp⟩ a w) (h:leE e e') (hh:leH fr.pins 0 hp hp') (hn:AV.nameds hp' e'=true) (ho:obsOk hp'=true) :
  ∃ ρ',(∀ i p,ρ' i=some p→ρ i=some p∧live hp' i=true)∧Rep fr ρ' ⟨e',hp'⟩ a w:=by
 have hat:=leH_at hh
 let ρ':Pl:=fun i=>if live hp' i=true then ρ i else none
 have hsub:∀ i p,ρ' i=some p→ρ i=some p∧live hp' i=true:=by
  intro i p hi
  by_cases hl:live hp' i=true
  ·simp only [ρ',hl,if_true] at hi;exact ⟨hi,hl⟩
  ·simp only [ρ',hl] at hi;cases hi
 have hfew:Fewer hp' w (Av fr.F ρ) ρ (Av fr.F ρ') ρ':=by
  refine ⟨?_,fun j hj=>by simp only [ρ',hj,if_true]⟩
  rintro k (h1 | ⟨i,p,h1,h2⟩)
  ·exact .inl h1
  ·exact .inr ⟨i,p,(hsub i p h1).1,h2⟩
 refine ⟨ρ',hsub,{ keep:=hr.keep,base:=hr.base,defers:=hr.defers,heap:=fun i=>?_,inj:=fun i j p q b hi hj hp hq=>hr.inj i j p q b (hsub i p hi).1 (hsub j q hj).1 hp hq,mine:=fun i p b hi hp=>hr.mine i p b (hsub i p hi).1 hp,fF:=hr.fF,pin:=fun i hi=>?_,env:=Rps.named hfew e' hn (leE_sound h hr.env) }⟩
 ·have hri:=hr.heap i
  show HRo _ _ _ (hp'.getD i .dead) (ρ' i)
  cases hob:hp'.getD i .dead with
  | dead =>
   show ρ' i=none
   have hl:live hp' i=false:=by simp only [live,hob]
   simp only [ρ',hl]
   rfl
  | map clock births rows =>
   have hl:live hp' i=true:=by simp only [live,hob]
   have he:hp.getD i .dead = .map clock births rows:=by
    rcases hat i with h1 | ⟨h1,_⟩
    ·exact h1.trans hob
    ·rw [hob] at h1;cases h1
   have hri':HRo w (Av fr.F ρ) ρ (.map clock births rows) (ρ i):=by rw [← he];exact hri
   rw [hfew.pl i hl]
   match hpi:ρ i,hri' with
   | some (.mapb b),hri' =>
    obtain ⟨ents,g1,g2,g3,g4⟩:=hri'
    exact ⟨ents,g1,g2,g3,RpR.later (ρ:=noPl) _ hfew.later g4⟩
   | some .nil,hri'=>exact hri'.elim
   | some (.blk b s cap len),hri'=>exact hri'.elim
   | none,hri'=>exact hri'.elim
  | iter m since seen stepped =>
   have hl:live hp' i=true:=by simp only [live,hob]
   have he:hp.getD i .dead = .iter m since seen stepped:=by
    rcases hat i with h1 | ⟨h1,_⟩
    ·exact h1.trans hob
    ·rw [hob] at h1;cases h1
   have hri':HRo w (Av fr.F ρ) ρ (.iter m since seen stepped) (ρ i):=by rw [← he];exact hri
   rw [hfew.pl i hl]
   match hpi:ρ i,hri' with
   | some (.mapb b),hri' =>
    obtain ⟨x,g1,g2⟩:=hri'
    have hm:Ob.iter m since seen stepped∈hp':=List.mem_of_getElem? (getD_live hob (by simp))
    have hlj:=List.all_eq_true.1 ho _ hm
    exact ⟨x,g1,Rp.named hfew m hlj g2⟩
   | some .nil,hri'=>exact hri'.elim
   | some (.blk b s cap len),hri'=>exact hri'.elim
   | none,hri'=>exact hri'.elim
  | arr T k pf rows =>
   have hl:live hp' i=true:=by simp only [live,hob]
   have he:hp.getD i .dead = .arr T k pf rows:=by
    rcases hat i with h1 | ⟨h1,_⟩
    ·exact h1.trans hob
    ·rw [hob] at h1;cases h1
   have hri':HRo w (Av fr.F ρ) ρ (.arr T k pf rows) (ρ i):=by rw [← he];exact hri
   have hρ:ρ' i=ρ i:=hfew.pl i hl
   rw [hρ]
   have hall:pf=true∨rows.all (AV.nameds hp')=true:=by
    have hm:Ob.arr T k pf rows∈hp':=by
     have hi:hp'[i]?=some (.arr T k pf rows):=getD_arr hob
     exact List.mem_of_getElem? hi
    have:=List.all_eq_true.1 ho _ hm
    simpa using this
   match hpi:ρ i,hri' with
   | some .nil,hri'=>exact hri'
   | some (.blk b s cap len),hri' =>
    obtain ⟨g1,g2,vss,rest,g3,g4,g5,g6,g7,g8⟩:=hri'
    refine ⟨g1,g2,vss,rest,g3,?_,g5,g6,g7,g8⟩
    cases pf with
    | true=>exact RpR.later (ρ:=noPl) _ hfew.later g4
    | false=>exact g4.named hfew (hall.resolve_left (by simp))
   | some (.mapb b),hri'=>exact hri'.elim
   | none,hri'=>exact hri'.elim
 ·have hpi:=hr.pin i hi
  have hl:live hp' i=true:=by
   rcases hat i with h1 | ⟨_,h1⟩
   ·cases hob:hp'.getD i .dead with
    | dead =>
     have:=hr.heap i
     rw [show (St.mk e hp).hp.getD i .dead = .dead from h1.trans hob] at this
     exact absurd this hpi.2
    | arr T k pf rows=>simp only [live,hob]
    | map _ _ _=>simp only [live,hob]
    | iter _ _ _ _=>simp only [live,hob]
   ·exact absurd hi (by simpa using h1)
  rw [hfew.pl i hl]
  exact hpi
theorem Le_drop {pins:List Nat} {e e':List AV} {hp hp':List Ob} (h:leE e e') (hh:leH pins 0 hp hp') (hn:AV.nameds hp' e'=true) (ho:obsOk hp'=true):Le pins ⟨e,hp⟩ ⟨e',hp'⟩:=by
 intro fr ρ a w hpins hr
 subst hpins
 obtain ⟨ρ',_,h1⟩:=hr.drop h hh hn ho
 exact ⟨ρ',h1⟩
theorem Le_nil {pins:List Nat} {e:List AV} {hp:List Ob} (j d:Nat) (T:TypeId) (k:Nat) (pf:Bool) (hj:e[j]?=some .nils) (hd:hp[d]?=some .dead):Le pins ⟨e,hp⟩ ⟨e.set j (.sref d 0 0),hp.set d (.arr T k pf [])⟩:=by
 intro fr ρ a w hpins hr
 have hr':=hr.nilObj (d:=d) hd T k pf
 refine ⟨_,{ hr' with env:=?_ }⟩
 have henv:=hr'.env
 obtain ⟨v,hv,hr1⟩:=henv.get (show e[j]?=some .nils from hj)
 simp only [Rp] at hr1
 subst hr1
 have h2:Rp w (Av fr.F (ρ.put d (some .nil))) (ρ.put d (some .nil)) (.sref d 0 0) (.slice none 0 0):=by
  simp only [Rp];exact .inl ⟨Pl.put_same _ _ _,by simp,by simp,by simp⟩
 have h3:=henv.set j h2
 have h4:a.tmps.toList.set j (.slice none 0 0)=a.tmps.toList:=by
  obtain ⟨hlt,he⟩:=List.getElem?_eq_some_iff.1 hv
  rw [← he,List.set_getElem_self]
 rwa [h4] at h3
theorem allLen_lit {k:Nat} {l:List (List AV)} (h:(l.all fun r=>r.length == k)=true):AllLen k l:=fun r hr=>by
 have:=List.all_eq_true.1 h r hr
 simpa using this
theorem allOne_lit {l:List (List AV)} (h:(l.all fun r=>r.all AV.one)=true):AllOne l:=fun r hr=>List.all_eq_true.1 h r hr
section
variable {P:Program} {pins:List Nat} {s:St} {A:AV→St→Prop} {d:Option Tmp} {x y:AV} {e:TypeId}
def appO (P:Program) (e:TypeId) (pins:List Nat) (i n:Nat) (pf':Bool) (new:List (List AV)) (o:Ob) (s:St) (A:AV→St→Prop):Prop :=
 match o with
 | .arr T k pf rows=>T=e∧k=(tyOf P e).size∧i∉pins∧(pf=true→pf'=true∨AllPure new)∧n≤rows.length∧(n+new.length)*(tyOf P e).bytes≤140737488355328∧n+new.length≤140737488355328 ∧
     A (.sref i 0 (n+new.length)) ⟨AV.kills i s.env,(s.hp.set i (.arr T k pf (rows.take n++new))).map (Ob.kill i)⟩
 | _=>False
def appR (P:Program) (e:TypeId) (pins:List Nat) (d:Option Tmp) (x:AV) (s:St) (A:AV→St→Prop) (r:Option (Bool × List (List AV))):Prop :=
 match r with
 | some (pf',new)=>(tyOf P e).d ≠ .no∧(tyOf P e).hz=true∧(tyOf P e).zero.length=(tyOf P e).size∧(tyOf P e).size≠0∧AllLen (tyOf P e).size new∧AllOne new∧(match x with
  | .sref i 0 n=>appO P e pins i n pf' new (s.hp.getD i .dead) s A
  | .nils=>match d with
   | some d=>dead s d∧d∉pins∧new.length*(tyOf P e).bytes≤140737488355328∧new.length≤140737488355328∧A (.sref d 0 new.length) ⟨AV.kills d s.env,(s.hp.set d (.arr e (tyOf P e).size pf' new)).map (Ob.kill d)⟩
   | none=>False
  | _=>False)
 | none=>False
theorem appendW_eq {n b:Nat} {hz:Bool} {z:List AV}:(appendW P ⟨.slice e,n,b,hz,z⟩ pins d x y s A=appR P e pins d x s A (rowsOf y s.hp)):=by
 unfold appendW appR
 dsimp only
 cases rowsOf y s.hp <;> first | rfl | (rename_i q;rfl)
theorem appR_sref {i n:Nat} {pf':Bool} {new:List (List AV)}:(appR P e pins d (.sref i 0 n) s A (some (pf',new))=((tyOf P e).d ≠ .no∧(tyOf P e).hz=true∧(tyOf P e).zero.length=(tyOf P e).size∧(tyOf P e).size≠0∧AllLen (tyOf P e).size new∧AllOne new∧appO P e pins i n pf' new (s.hp.getD i .dead) s A)):=propext Iff.rfl
theorem appR_nils {d:Tmp} {pf':Bool} {new:List (List AV)}:(appR P e pins (some d) .nils s A (some (pf',new))=((tyOf P e).d ≠ .no∧(tyOf P e).hz=true∧(tyOf P e).zero.length=(tyOf P e).size∧(tyOf P e).size≠0∧AllLen (tyOf P e).size new∧AllOne new∧dead s d∧d∉pins∧new.length*(tyOf P e).bytes≤140737488355328∧new.length≤140737488355328∧A (.sref d 0 new.length) ⟨AV.kills d s.env,(s.hp.set d (.arr e (tyOf P e).size pf' new)).map (Ob.kill d)⟩)):=propext Iff.rfl
theorem appO_arr {i n:Nat} {pf':Bool} {new:List (List AV)} {T:TypeId} {k:Nat} {pf:Bool} {rows:List (List AV)}:(appO P e pins i n pf' new (.arr T k pf rows) s A=(T=e∧k=(tyOf P e).size∧i∉pins∧(pf=true→pf'=true∨AllPure new)∧n≤rows.length∧(n+new.length)*(tyOf P e).bytes≤140737488355328∧n+new.length≤140737488355328 ∧
     A (.sref i 0 (n+new.length)) ⟨AV.kills i s.env,(s.hp.set i (.arr T k pf (rows.take n++new))).map (Ob.kill i)⟩)):=propext Iff.rfl
def rowsO (off n:Nat) (o:Ob):Option (Bool × List (List AV)) :=
 match o with
 | .arr _ _ pf rows=>some (pf,(rows.drop off).take n)
 | _=>none
theorem rowsOf_sl {rows:List (List AV)} {hp:List Ob}:rowsOf (.sl rows) hp=some (true,rows):=id rfl
theorem rowsOf_nils {hp:List Ob}:rowsOf .nils hp=some (true,[]):=id rfl
theorem rowsOf_sref {i off n:Nat} {hp:List Ob}:rowsOf (.sref i off n) hp=rowsO off n (hp.getD i .dead):=id rfl
theorem rowsO_arr {off n:Nat} {T:TypeId} {k:Nat} {pf:Bool} {rows:List (List AV)}:rowsO off n (.arr T k pf rows)=some (pf,(rows.drop off).take n):=id rfl
theorem kill_any {i:Nat}  : AV.kill i (.any)=(.any):=by simp only [AV.kill]
theorem kill_und {i:Nat}  : AV.kill i (.und)=(.und):=by simp only [AV.kill]
theorem kill_int {i:Nat} {k:IntKind} {m:Int}:AV.kill i (.int k m)=(.int k m):=by simp only [AV.kill]
theorem kill_bool {i:Nat} {b:Bool}:AV.kill i (.bool b)=(.bool b):=by simp only [AV.kill]
theorem kill_str {i:Nat} {b:ByteArray}:AV.kill i (.str b)=(.str b):=by simp only [AV.kill]
theorem kill_nils {i:Nat}  : AV.kill i (.nils)=(.nils):=by simp only [AV.kill]
theorem kill_sl {i:Nat} {l:List (List AV)}:AV.kill i (.sl l)=(.sl l):=by simp only [AV.kill]
theorem kill_ia {i:Nat} {l:List AV} {o:Nat}:AV.kill i (.ia l o)=(.ia l o):=by simp only [AV.kill]
theorem kill_nilp {i:Nat}  : AV.kill i (.nilp)=(.nilp):=by simp only [AV.kill]
theorem kill_nilif {i:Nat}  : AV.kill i (.nilif)=(.nilif):=by simp only [AV.kill]
theorem kill_nilfn {i:Nat}  : AV.kill i (.nilfn)=(.nilfn):=by simp only [AV.kill]
theorem kill_nilmp {i:Nat}  : AV.kill i (.nilmp)=(.nilmp):=by simp only [AV.kill]
theorem kill_gl {i:Nat} {g:Nat}:AV.kill i (.gl g)=(.gl g):=by simp only [AV.kill]
theorem kill_sref {i:Nat} {j off n:Nat}:AV.kill i (.sref j off n)=(if j=i then .any else .sref j off n):=by simp only [AV.kill]
theorem kill_ptr {i:Nat} {j r off:Nat}:AV.kill i (.ptr j r off)=(if j=i then .any else .ptr j r off):=by simp only [AV.kill]
theorem kill_agg {i:Nat} {l:List AV}:AV.kill i (.agg l)=(.agg (AV.kills i l)):=by simp only [AV.kill]
theorem kill_tup {i:Nat} {l:List AV}:AV.kill i (.tup l)=(.tup (AV.kills i l)):=by simp only [AV.kill]
theorem kill_fn {i:Nat} {f:Fn} {l m:List AV}:AV.kill i (.fn f l m)=(.fn f (AV.kills i l) (AV.kills i m)):=by simp only [AV.kill]
theorem kill_ifc {i:Nat} {t:TypeId} {x:AV}:AV.kill i (.ifc t x)=(.ifc t (AV.kill i x)):=by simp only [AV.kill]
theorem kills_nil {i:Nat}:AV.kills i []=[]:=id rfl
theorem kills_cons {i:Nat} {x:AV} {l:List AV}:AV.kills i (x::l)=AV.kill i x::AV.kills i l:=by simp only [AV.kills]
theorem kill_dead {i:Nat}:Ob.kill i .dead = .dead:=id rfl
theorem kill_arr {i:Nat} {rs:List (List AV)} {T:TypeId} {k:Nat}:Ob.kill i (.arr T k true rs) = .arr T k true rs:=id rfl
theorem kill_arrf {i:Nat} {rs:List (List AV)} {T:TypeId} {k:Nat}:Ob.kill i (.arr T k false rs) = .arr T k false (rs.map (AV.kills i)):=id rfl
end
theorem ty1:tyOf Tryz.prog 1=⟨.func,1,8,true,[.nilfn]⟩:=by kernel_rfl
theorem ty2:tyOf Tryz.prog 2=⟨.int .i64,1,8,true,[.int .i64 0]⟩:=by kernel_rfl
theorem ty3:tyOf Tryz.prog 3=⟨.int .i64,1,8,true,[.int .i64 0]⟩:=by kernel_rfl
theorem ty4:tyOf Tryz.prog 4=⟨.bool,1,1,true,[.bool false]⟩:=by kernel_rfl
theorem ty5:tyOf Tryz.prog 5=⟨.int .u8,1,1,true,[.int .u8 0]⟩:=by kernel_rfl
theorem ty9:tyOf Tryz.prog 9=⟨.str,1,16,true,[.str (ByteArray.mk #[])]⟩:=by kernel_rfl
theorem ty19:tyOf Tryz.prog 19=⟨.struct [(0,17)],1,8,true,[.nilp]⟩:=by kernel_rfl
theorem ty20:tyOf Tryz.prog 20=⟨.iface,1,16,true,[.nilif]⟩:=by kernel_rfl
theorem ty21:tyOf Tryz.prog 21=⟨.int .i32,1,4,true,[.int .i32 0]⟩:=by kernel_rfl
theorem ty22:tyOf Tryz.prog 22=⟨.func,1,8,true,[.nilfn]⟩:=by kernel_rfl
theorem ty23:tyOf Tryz.prog 23=⟨.slice 43,1,24,true,[.nils]⟩:=by kernel_rfl
theorem ty24:tyOf Tryz.prog 24=⟨.ptr 111,1,8,true,[.nilp]⟩:=by kernel_rfl
theorem ty25:tyOf Tryz.prog 25=⟨.func,1,8,true,[.nilfn]⟩:=by kernel_rfl
theorem ty26:tyOf Tryz.prog 26=⟨.slice 33,1,24,true,[.nils]⟩:=by kernel_rfl
theorem ty27:tyOf Tryz.prog 27=⟨.slice 58,1,24,true,[.nils]⟩:=by kernel_rfl
theorem ty28:tyOf Tryz.prog 28=⟨.struct [(0,26),(1,27),(2,3)],3,56,true,[.nils,.nils,.int .i64 0]⟩:=by kernel_rfl
theorem ty29:tyOf Tryz.prog 29=⟨.struct [(0,26),(1,27),(2,3)],3,56,true,[.nils,.nils,.int .i64 0]⟩:=by kernel_rfl
theorem ty31:tyOf Tryz.prog 31=⟨.func,1,8,true,[.nilfn]⟩:=by kernel_rfl
theorem ty32:tyOf Tryz.prog 32=⟨.slice 123,1,24,true,[.nils]⟩:=by kernel_rfl
theorem ty33:tyOf Tryz.prog 33=⟨.slice 123,1,24,true,[.nils]⟩:=by kernel_rfl
theorem ty34:tyOf Tryz.prog 34=⟨.slice 179,1,24,true,[.nils]⟩:=by kernel_rfl
theorem ty35:tyOf Tryz.prog 35=⟨.slice 179,1,24,true,[.nils]⟩:=by kernel_rfl
theorem ty36:tyOf Tryz.prog 36=⟨.struct [(0,4),(1,35)],2,32,true,[.bool false,.nils]⟩:=by kernel_rfl
theorem ty37:tyOf Tryz.prog 37=⟨.struct [(0,4),(1,35)],2,32,true,[.bool false,.nils]⟩:=by kernel_rfl
theorem ty38:tyOf Tryz.prog 38=⟨.struct [(0,37),(2,35)],3,56,true,[.bool false,.nils,.nils]⟩:=by kernel_rfl
theorem ty39:tyOf Tryz.prog 39=⟨.struct [(0,37),(2,35)],3,56,true,[.bool false,.nils,.nils]⟩:=by kernel_rfl
theorem ty40:tyOf Tryz.prog 40=⟨.struct [(0,39),(3,39)],6,112,true,[.bool false,.nils,.nils,.bool false,.nils,.nils]⟩:=by kernel_rfl
theorem ty41:tyOf Tryz.prog 41=⟨.struct [(0,39),(3,39)],6,112,true,[.bool false,.nils,.nils,.bool false,.nils,.nils]⟩:=by kernel_rfl
theorem ty42:tyOf Tryz.prog 42=⟨.struct [(0,3),(1,3),(2,33),(3,41),(9,3)],10,160,true,[.int .i64 0,.int .i64 0,.nils,.bool false,.nils,.nils,.bool false,.nils,.nils,.int .i64 0]⟩:=by kernel_rfl
theorem ty43:tyOf Tryz.prog 43=⟨.struct [(0,3),(1,3),(2,33),(3,41),(9,3)],10,160,true,[.int .i64 0,.int .i64 0,.nils,.bool false,.nils,.nils,.bool false,.nils,.nils,.int .i64 0]⟩:=by kernel_rfl
theorem ty44:tyOf Tryz.prog 44=⟨.func,1,8,true,[.nilfn]⟩:=by kernel_rfl
theorem ty45:tyOf Tryz.prog 45=⟨.int .i64,1,8,true,[.int .i64 0]⟩:=by kernel_rfl
theorem ty47:tyOf Tryz.prog 47=⟨.func,1,8,true,[.nilfn]⟩:=by kernel_rfl
theorem ty48:tyOf Tryz.prog 48=⟨.slice 139,1,24,true,[.nils]⟩:=by kernel_rfl
theorem ty50:tyOf Tryz.prog 50=⟨.func,1,8,true,[.nilfn]⟩:=by kernel_rfl
theorem ty51:tyOf Tryz.prog 51=⟨.slice 39,1,24,true,[.nils]⟩:=by kernel_rfl
theorem ty53:tyOf Tryz.prog 53=⟨.func,1,8,true,[.nilfn]⟩:=by kernel_rfl
theorem ty54:tyOf Tryz.prog 54=⟨.func,1,8,true,[.nilfn]⟩:=by kernel_rfl
theorem ty55:tyOf Tryz.prog 55=⟨.func,1,8,true,[.nilfn]⟩:=by kernel_rfl
theorem ty56:tyOf Tryz.prog 56=⟨.func,1,8,true,[.nilfn]⟩:=by kernel_rfl
theorem ty57:tyOf Tryz.prog 57=⟨.struct [(0,3),(1,3),(2,4),(3,41),(9,3)],10,144,true,[.int .i64 0,.int .i64 0,.bool false,.bool false,.nils,.nils,.bool false,.nils,.nils,.int .i64 0]⟩:=by kernel_rfl
theorem ty58:tyOf Tryz.prog 58=⟨.struct [(0,3),(1,3),(2,4),(3,41),(9,3)],10,144,true,[.int .i64 0,.int .i64 0,.bool false,.bool false,.nils,.nils,.bool false,.nils,.nils,.int .i64 0]⟩:=by kernel_rfl
theorem ty59:tyOf Tryz.prog 59=⟨.func,1,8,true,[.nilfn]⟩:=by kernel_rfl
theorem ty60:tyOf Tryz.prog 60=⟨.slice 99,1,24,true,[.nils]⟩:=by kernel_rfl
theorem ty61:tyOf Tryz.prog 61=⟨.struct [(0,3),(1,60)],2,32,true,[.int .i64 0,.nils]⟩:=by kernel_rfl
theorem ty62:tyOf Tryz.prog 62=⟨.struct [(0,3),(1,60)],2,32,true,[.int .i64 0,.nils]⟩:=by kernel_rfl
theorem ty63:tyOf Tryz.prog 63=⟨.slice 105,1,24,true,[.nils]⟩:=by kernel_rfl
theorem ty64:tyOf Tryz.prog 64=⟨.slice 197,1,24,true,[.nils]⟩:=by kernel_rfl
theorem ty65:tyOf Tryz.prog 65=⟨.struct [(0,63),(1,3),(2,64)],3,56,true,[.nils,.int .i64 0,.nils]⟩:=by kernel_rfl
theorem ty66:tyOf Tryz.prog 66=⟨.struct [(0,63),(1,3),(2,64)],3,56,true,[.nils,.int .i64 0,.nils]⟩:=by kernel_rfl
theorem ty67:tyOf Tryz.prog 67=⟨.slice 41,1,24,true,[.nils]⟩:=by kernel_rfl
theorem ty68:tyOf Tryz.prog 68=⟨.slice 164,1,24,true,[.nils]⟩:=by kernel_rfl
theorem ty69:tyOf Tryz.prog 69=⟨.struct [(0,62),(2,66),(5,67),(6,68),(7,3)],8,144,true,[.int .i64 0,.nils,.nils,.int .i64 0,.nils,.nils,.nils,.int .i64 0]⟩:=by kernel_rfl
theorem ty70:tyOf Tryz.prog 70=⟨.struct [(0,62),(2,66),(5,67),(6,68),(7,3)],8,144,true,[.int .i64 0,.nils,.nils,.int .i64 0,.nils,.nils,.nils,.int .i64 0]⟩:=by kernel_rfl
theorem ty71:tyOf Tryz.prog 71=⟨.func,1,8,true,[.nilfn]⟩:=by kernel_rfl
theorem ty72:tyOf Tryz.prog 72=⟨.struct [(0,24),(1,70)],9,152,true,[.nilp,.int .i64 0,.nils,.nils,.int .i64 0,.nils,.nils,.nils,.int .i64 0]⟩:=by kernel_rfl
theorem ty73:tyOf Tryz.prog 73=⟨.struct [(0,24),(1,70)],9,152,true,[.nilp,.int .i64 0,.nils,.nils,.int .i64 0,.nils,.nils,.nils,.int .i64 0]⟩:=by kernel_rfl
theorem ty75:tyOf Tryz.prog 75=⟨.func,1,8,true,[.nilfn]⟩:=by kernel_rfl
theorem ty76:tyOf Tryz.prog 76=⟨.func,1,8,true,[.nilfn]⟩:=by kernel_rfl
theorem ty77:tyOf Tryz.prog 77=⟨.slice 73,1,24,true,[.nils]⟩:=by kernel_rfl
theorem ty78:tyOf Tryz.prog 78=⟨.func,1,8,true,[.nilfn]⟩:=by kernel_rfl
theorem ty79:tyOf Tryz.prog 79=⟨.func,1,8,true,[.nilfn]⟩:=by kernel_rfl
theorem ty80:tyOf Tryz.prog 80=⟨.func,1,8,true,[.nilfn]⟩:=by kernel_rfl
theorem ty82:tyOf Tryz.prog 82=⟨.func,1,8,true,[.nilfn]⟩:=by kernel_rfl
theorem ty84:tyOf Tryz.prog 84=⟨.func,1,8,true,[.nilfn]⟩:=by kernel_rfl
theorem ty85:tyOf Tryz.prog 85=⟨.func,1,8,true,[.nilfn]⟩:=by kernel_rfl
theorem ty86:tyOf Tryz.prog 86=⟨.func,1,8,true,[.nilfn]⟩:=by kernel_rfl
theorem ty88:tyOf Tryz.prog 88=⟨.func,1,8,true,[.nilfn]⟩:=by kernel_rfl
theorem ty89:tyOf Tryz.prog 89=⟨.func,1,8,true,[.nilfn]⟩:=by kernel_rfl
theorem ty90:tyOf Tryz.prog 90=⟨.func,1,8,true,[.nilfn]⟩:=by kernel_rfl
theorem ty91:tyOf Tryz.prog 91=⟨.func,1,8,true,[.nilfn]⟩:=by kernel_rfl
theorem ty93:tyOf Tryz.prog 93=⟨.slice 34,1,24,true,[.nils]⟩:=by kernel_rfl
theorem ty94:tyOf Tryz.prog 94=⟨.func,1,8,true,[.nilfn]⟩:=by kernel_rfl
theorem ty95:tyOf Tryz.prog 95=⟨.func,1,8,true,[.nilfn]⟩:=by kernel_rfl
theorem ty96:tyOf Tryz.prog 96=⟨.func,1,8,true,[.nilfn]⟩:=by kernel_rfl
theorem ty97:tyOf Tryz.prog 97=⟨.func,1,8,true,[.nilfn]⟩:=by kernel_rfl
theorem ty98:tyOf Tryz.prog 98=⟨.struct [(0,3),(1,33)],2,32,true,[.int .i64 0,.nils]⟩:=by kernel_rfl
theorem ty99:tyOf Tryz.prog 99=⟨.struct [(0,3),(1,33)],2,32,true,[.int .i64 0,.nils]⟩:=by kernel_rfl
theorem ty101:tyOf Tryz.prog 101=⟨.func,1,8,true,[.nilfn]⟩:=by kernel_rfl
theorem ty102:tyOf Tryz.prog 102=⟨.struct [(0,4),(1,41),(7,3)],8,128,true,[.bool false,.bool false,.nils,.nils,.bool false,.nils,.nils,.int .i64 0]⟩:=by kernel_rfl
theorem ty103:tyOf Tryz.prog 103=⟨.struct [(0,4),(1,41),(7,3)],8,128,true,[.bool false,.bool false,.nils,.nils,.bool false,.nils,.nils,.int .i64 0]⟩:=by kernel_rfl
theorem ty104:tyOf Tryz.prog 104=⟨.struct [(0,103),(8,103)],16,256,true,[.bool false,.bool false,.nils,.nils,.bool false,.nils,.nils,.int .i64 0,.bool false,.bool false,.nils,.nils,.bool false,.nils,.nils,.int .i64 0]⟩:=by kernel_rfl
theorem ty105:tyOf Tryz.prog 105=⟨.struct [(0,103),(8,103)],16,256,true,[.bool false,.bool false,.nils,.nils,.bool false,.nils,.nils,.int .i64 0,.bool false,.bool false,.nils,.nils,.bool false,.nils,.nils,.int .i64 0]⟩:=by kernel_rfl
theorem ty107:tyOf Tryz.prog 107=⟨.func,1,8,true,[.nilfn]⟩:=by kernel_rfl
theorem ty108:tyOf Tryz.prog 108=⟨.ptr 186,1,8,true,[.nilp]⟩:=by kernel_rfl
theorem ty109:tyOf Tryz.prog 109=⟨.map 9 3,1,8,true,[.nilmp]⟩:=by kernel_rfl
theorem ty110:tyOf Tryz.prog 110=⟨.struct [(0,108),(1,62),(3,67),(4,109),(5,3)],6,80,true,[.nilp,.int .i64 0,.nils,.nils,.nilmp,.int .i64 0]⟩:=by kernel_rfl
theorem ty111:tyOf Tryz.prog 111=⟨.struct [(0,108),(1,62),(3,67),(4,109),(5,3)],6,80,true,[.nilp,.int .i64 0,.nils,.nils,.nilmp,.int .i64 0]⟩:=by kernel_rfl
theorem ty112:tyOf Tryz.prog 112=⟨.func,1,8,true,[.nilfn]⟩:=by kernel_rfl
theorem ty113:tyOf Tryz.prog 113=⟨.func,1,8,true,[.nilfn]⟩:=by kernel_rfl
theorem ty114:tyOf Tryz.prog 114=⟨.func,1,8,true,[.nilfn]⟩:=by kernel_rfl
theorem ty115:tyOf Tryz.prog 115=⟨.func,1,8,true,[.nilfn]⟩:=by kernel_rfl
theorem ty116:tyOf Tryz.prog 116=⟨.func,1,8,true,[.nilfn]⟩:=by kernel_rfl
theorem ty117:tyOf Tryz.prog 117=⟨.func,1,8,true,[.nilfn]⟩:=by kernel_rfl
theorem ty119:tyOf Tryz.prog 119=⟨.func,1,8,true,[.nilfn]⟩:=by kernel_rfl
theorem ty121:tyOf Tryz.prog 121=⟨.func,1,8,true,[.nilfn]⟩:=by kernel_rfl
theorem ty122:tyOf Tryz.prog 122=⟨.struct [(0,3),(1,39)],4,64,true,[.int .i64 0,.bool false,.nils,.nils]⟩:=by kernel_rfl
theorem ty123:tyOf Tryz.prog 123=⟨.struct [(0,3),(1,39)],4,64,true,[.int .i64 0,.bool false,.nils,.nils]⟩:=by kernel_rfl
theorem ty124:tyOf Tryz.prog 124=⟨.func,1,8,true,[.nilfn]⟩:=by kernel_rfl
theorem ty125:tyOf Tryz.prog 125=⟨.func,1,8,true,[.nilfn]⟩:=by kernel_rfl
theorem ty126:tyOf Tryz.prog 126=⟨.func,1,8,true,[.nilfn]⟩:=by kernel_rfl
theorem ty127:tyOf Tryz.prog 127=⟨.func,1,8,true,[.nilfn]⟩:=by kernel_rfl
theorem ty128:tyOf Tryz.prog 128=⟨.slice 3,1,24,true,[.nils]⟩:=by kernel_rfl
theorem ty130:tyOf Tryz.prog 130=⟨.func,1,8,true,[.nilfn]⟩:=by kernel_rfl
theorem ty131:tyOf Tryz.prog 131=⟨.struct [(0,4),(1,3)],2,16,true,[.bool false,.int .i64 0]⟩:=by kernel_rfl
theorem ty132:tyOf Tryz.prog 132=⟨.struct [(0,4),(1,3)],2,16,true,[.bool false,.int .i64 0]⟩:=by kernel_rfl
theorem ty134:tyOf Tryz.prog 134=⟨.func,1,8,true,[.nilfn]⟩:=by kernel_rfl
theorem ty135:tyOf Tryz.prog 135=⟨.func,1,8,true,[.nilfn]⟩:=by kernel_rfl
theorem ty136:tyOf Tryz.prog 136=⟨.func,1,8,true,[.nilfn]⟩:=by kernel_rfl
theorem ty137:tyOf Tryz.prog 137=⟨.func,1,8,true,[.nilfn]⟩:=by kernel_rfl
theorem ty138:tyOf Tryz.prog 138=⟨.struct [(0,3),(1,39)],4,64,true,[.int .i64 0,.bool false,.nils,.nils]⟩:=by kernel_rfl
theorem ty139:tyOf Tryz.prog 139=⟨.struct [(0,3),(1,39)],4,64,true,[.int .i64 0,.bool false,.nils,.nils]⟩:=by kernel_rfl
theorem ty140:tyOf Tryz.prog 140=⟨.func,1,8,true,[.nilfn]⟩:=by kernel_rfl
theorem ty141:tyOf Tryz.prog 141=⟨.slice 143,1,24,true,[.nils]⟩:=by kernel_rfl
theorem ty142:tyOf Tryz.prog 142=⟨.struct [(0,41),(6,41)],12,224,true,[.bool false,.nils,.nils,.bool false,.nils,.nils,.bool false,.nils,.nils,.bool false,.nils,.nils]⟩:=by kernel_rfl
theorem ty143:tyOf Tryz.prog 143=⟨.struct [(0,41),(6,41)],12,224,true,[.bool false,.nils,.nils,.bool false,.nils,.nils,.bool false,.nils,.nils,.bool false,.nils,.nils]⟩:=by kernel_rfl
theorem ty145:tyOf Tryz.prog 145=⟨.func,1,8,true,[.nilfn]⟩:=by kernel_rfl
theorem ty146:tyOf Tryz.prog 146=⟨.func,1,8,true,[.nilfn]⟩:=by kernel_rfl
theorem ty147:tyOf Tryz.prog 147=⟨.func,1,8,true,[.nilfn]⟩:=by kernel_rfl
theorem ty148:tyOf Tryz.prog 148=⟨.func,1,8,true,[.nilfn]⟩:=by kernel_rfl
theorem ty149:tyOf Tryz.prog 149=⟨.func,1,8,true,[.nilfn]⟩:=by kernel_rfl
theorem ty151:tyOf Tryz.prog 151=⟨.func,1,8,true,[.nilfn]⟩:=by kernel_rfl
theorem ty152:tyOf Tryz.prog 152=⟨.func,1,8,true,[.nilfn]⟩:=by kernel_rfl
theorem ty153:tyOf Tryz.prog 153=⟨.func,1,8,true,[.nilfn]⟩:=by kernel_rfl
theorem ty154:tyOf Tryz.prog 154=⟨.func,1,8,true,[.nilfn]⟩:=by kernel_rfl
theorem ty155:tyOf Tryz.prog 155=⟨.func,1,8,true,[.nilfn]⟩:=by kernel_rfl
theorem ty156:tyOf Tryz.prog 156=⟨.func,1,8,true,[.nilfn]⟩:=by kernel_rfl
theorem ty157:tyOf Tryz.prog 157=⟨.func,1,8,true,[.nilfn]⟩:=by kernel_rfl
theorem ty158:tyOf Tryz.prog 158=⟨.func,1,8,true,[.nilfn]⟩:=by kernel_rfl
theorem ty161:tyOf Tryz.prog 161=⟨.func,1,8,true,[.nilfn]⟩:=by kernel_rfl
theorem ty162:tyOf Tryz.prog 162=⟨.func,1,8,true,[.nilfn]⟩:=by kernel_rfl
theorem ty163:tyOf Tryz.prog 163=⟨.struct [(0,33),(1,3)],2,32,true,[.nils,.int .i64 0]⟩:=by kernel_rfl
theorem ty164:tyOf Tryz.prog 164=⟨.struct [(0,33),(1,3)],2,32,true,[.nils,.int .i64 0]⟩:=by kernel_rfl
theorem ty166:tyOf Tryz.prog 166=⟨.func,1,8,true,[.nilfn]⟩:=by kernel_rfl
theorem ty167:tyOf Tryz.prog 167=⟨.func,1,8,true,[.nilfn]⟩:=by kernel_rfl
theorem ty168:tyOf Tryz.prog 168=⟨.func,1,8,true,[.nilfn]⟩:=by kernel_rfl
theorem ty169:tyOf Tryz.prog 169=⟨.arr 2 132,4,32,true,[.bool false,.int .i64 0,.bool false,.int .i64 0]⟩:=by kernel_rfl
theorem ty170:tyOf Tryz.prog 170=⟨.func,1,8,true,[.nilfn]⟩:=by kernel_rfl
theorem ty171:tyOf Tryz.prog 171=⟨.struct [(0,3),(1,3)],2,16,true,[.int .i64 0,.int .i64 0]⟩:=by kernel_rfl
theorem ty172:tyOf Tryz.prog 172=⟨.struct [(0,3),(1,3)],2,16,true,[.int .i64 0,.int .i64 0]⟩:=by kernel_rfl
theorem ty174:tyOf Tryz.prog 174=⟨.func,1,8,true,[.nilfn]⟩:=by kernel_rfl
theorem ty175:tyOf Tryz.prog 175=⟨.func,1,8,true,[.nilfn]⟩:=by kernel_rfl
theorem ty176:tyOf Tryz.prog 176=⟨.func,1,8,true,[.nilfn]⟩:=by kernel_rfl
theorem ty178:tyOf Tryz.prog 178=⟨.func,1,8,true,[.nilfn]⟩:=by kernel_rfl
theorem ty179:tyOf Tryz.prog 179=⟨.int .u32,1,4,true,[.int .u32 0]⟩:=by kernel_rfl
theorem ty181:tyOf Tryz.prog 181=⟨.func,1,8,true,[.nilfn]⟩:=by kernel_rfl
theorem ty182:tyOf Tryz.prog 182=⟨.func,1,8,true,[.nilfn]⟩:=by kernel_rfl
theorem ty183:tyOf Tryz.prog 183=⟨.struct [(0,3),(1,64)],2,32,true,[.int .i64 0,.nils]⟩:=by kernel_rfl
theorem ty184:tyOf Tryz.prog 184=⟨.struct [(0,3),(1,64)],2,32,true,[.int .i64 0,.nils]⟩:=by kernel_rfl
theorem ty185:tyOf Tryz.prog 185=⟨.struct [(0,184),(2,4),(3,63)],4,64,true,[.int .i64 0,.nils,.bool false,.nils]⟩:=by kernel_rfl
theorem ty186:tyOf Tryz.prog 186=⟨.struct [(0,184),(2,4),(3,63)],4,64,true,[.int .i64 0,.nils,.bool false,.nils]⟩:=by kernel_rfl
theorem ty187:tyOf Tryz.prog 187=⟨.func,1,8,true,[.nilfn]⟩:=by kernel_rfl
theorem ty188:tyOf Tryz.prog 188=⟨.func,1,8,true,[.nilfn]⟩:=by kernel_rfl
theorem ty189:tyOf Tryz.prog 189=⟨.func,1,8,true,[.nilfn]⟩:=by kernel_rfl
theorem ty190:tyOf Tryz.prog 190=⟨.func,1,8,true,[.nilfn]⟩:=by kernel_rfl
theorem ty191:tyOf Tryz.prog 191=⟨.func,1,8,true,[.nilfn]⟩:=by kernel_rfl
theorem ty192:tyOf Tryz.prog 192=⟨.func,1,8,true,[.nilfn]⟩:=by kernel_rfl
theorem ty193:tyOf Tryz.prog 193=⟨.func,1,8,true,[.nilfn]⟩:=by kernel_rfl
theorem ty194:tyOf Tryz.prog 194=⟨.func,1,8,true,[.nilfn]⟩:=by kernel_rfl
theorem ty195:tyOf Tryz.prog 195=⟨.func,1,8,true,[.nilfn]⟩:=by kernel_rfl
theorem ty196:tyOf Tryz.prog 196=⟨.struct [(0,3),(1,4),(2,3),(3,103)],11,152,true,[.int .i64 0,.bool false,.int .i64 0,.bool false,.bool false,.nils,.nils,.bool false,.nils,.nils,.int .i64 0]⟩:=by kernel_rfl
theorem ty197:tyOf Tryz.prog 197=⟨.struct [(0,3),(1,4),(2,3),(3,103)],11,152,true,[.int .i64 0,.bool false,.int .i64 0,.bool false,.bool false,.nils,.nils,.bool false,.nils,.nils,.int .i64 0]⟩:=by kernel_rfl
theorem ty199:tyOf Tryz.prog 199=⟨.func,1,8,true,[.nilfn]⟩:=by kernel_rfl
theorem ty200:tyOf Tryz.prog 200=⟨.func,1,8,true,[.nilfn]⟩:=by kernel_rfl
theorem ty201:tyOf Tryz.prog 201=⟨.func,1,8,true,[.nilfn]⟩:=by kernel_rfl
theorem ty202:tyOf Tryz.prog 202=⟨.func,1,8,true,[.nilfn]⟩:=by kernel_rfl
theorem ty203:tyOf Tryz.prog 203=⟨.func,1,8,true,[.nilfn]⟩:=by kernel_rfl
theorem ty204:tyOf Tryz.prog 204=⟨.func,1,8,true,[.nilfn]⟩:=by kernel_rfl
theorem ty205:tyOf Tryz.prog 205=⟨.func,1,8,true,[.nilfn]⟩:=by kernel_rfl
theorem ty206:tyOf Tryz.prog 206=⟨.func,1,8,true,[.nilfn]⟩:=by kernel_rfl
theorem ty207:tyOf Tryz.prog 207=⟨.func,1,8,true,[.nilfn]⟩:=by kernel_rfl
theorem ty208:tyOf Tryz.prog 208=⟨.func,1,8,true,[.nilfn]⟩:=by kernel_rfl
theorem ty210:tyOf Tryz.prog 210=⟨.func,1,8,true,[.nilfn]⟩:=by kernel_rfl
theorem ty211:tyOf Tryz.prog 211=⟨.struct [(0,24),(1,70)],9,152,true,[.nilp,.int .i64 0,.nils,.nils,.int .i64 0,.nils,.nils,.nils,.int .i64 0]⟩:=by kernel_rfl
theorem ty212:tyOf Tryz.prog 212=⟨.struct [(0,24),(1,70)],9,152,true,[.nilp,.int .i64 0,.nils,.nils,.int .i64 0,.nils,.nils,.nils,.int .i64 0]⟩:=by kernel_rfl
theorem ty214:tyOf Tryz.prog 214=⟨.func,1,8,true,[.nilfn]⟩:=by kernel_rfl
theorem ty215:tyOf Tryz.prog 215=⟨.func,1,8,true,[.nilfn]⟩:=by kernel_rfl
theorem ty216:tyOf Tryz.prog 216=⟨.func,1,8,true,[.nilfn]⟩:=by kernel_rfl
theorem ty217:tyOf Tryz.prog 217=⟨.func,1,8,true,[.nilfn]⟩:=by kernel_rfl
theorem ty218:tyOf Tryz.prog 218=⟨.func,1,8,true,[.nilfn]⟩:=by kernel_rfl
theorem ty219:tyOf Tryz.prog 219=⟨.func,1,8,true,[.nilfn]⟩:=by kernel_rfl
theorem ty220:tyOf Tryz.prog 220=⟨.func,1,8,true,[.nilfn]⟩:=by kernel_rfl
theorem ty221:tyOf Tryz.prog 221=⟨.map 3 33,1,8,true,[.nilmp]⟩:=by kernel_rfl
theorem ty222:tyOf Tryz.prog 222=⟨.map 3 33,1,8,true,[.nilmp]⟩:=by kernel_rfl
theorem ty224:tyOf Tryz.prog 224=⟨.func,1,8,true,[.nilfn]⟩:=by kernel_rfl
theorem ty225:tyOf Tryz.prog 225=⟨.func,1,8,true,[.nilfn]⟩:=by kernel_rfl
theorem ty226:tyOf Tryz.prog 226=⟨.func,1,8,true,[.nilfn]⟩:=by kernel_rfl
theorem ty227:tyOf Tryz.prog 227=⟨.func,1,8,true,[.nilfn]⟩:=by kernel_rfl
theorem ty228:tyOf Tryz.prog 228=⟨.func,1,8,true,[.nilfn]⟩:=by kernel_rfl
theorem ty229:tyOf Tryz.prog 229=⟨.func,1,8,true,[.nilfn]⟩:=by kernel_rfl
theorem ty230:tyOf Tryz.prog 230=⟨.func,1,8,true,[.nilfn]⟩:=by kernel_rfl
theorem ty233:tyOf Tryz.prog 233=⟨.func,1,8,true,[.nilfn]⟩:=by kernel_rfl
theorem ty234:tyOf Tryz.prog 234=⟨.func,1,8,true,[.nilfn]⟩:=by kernel_rfl
theorem ty235:tyOf Tryz.prog 235=⟨.func,1,8,true,[.nilfn]⟩:=by kernel_rfl
theorem ty236:tyOf Tryz.prog 236=⟨.func,1,8,true,[.nilfn]⟩:=by kernel_rfl
theorem ty237:tyOf Tryz.prog 237=⟨.func,1,8,true,[.nilfn]⟩:=by kernel_rfl
theorem ty238:tyOf Tryz.prog 238=⟨.func,1,8,true,[.nilfn]⟩:=by kernel_rfl
theorem ty239:tyOf Tryz.prog 239=⟨.func,1,8,true,[.nilfn]⟩:=by kernel_rfl
theorem ty241:tyOf Tryz.prog 241=⟨.int .u64,1,8,true,[.int .u64 0]⟩:=by kernel_rfl
theorem ty242:tyOf Tryz.prog 242=⟨.func,1,8,true,[.nilfn]⟩:=by kernel_rfl
theorem ty243:tyOf Tryz.prog 243=⟨.ptr 184,1,8,true,[.nilp]⟩:=by kernel_rfl
theorem ty244:tyOf Tryz.prog 244=⟨.func,1,8,true,[.nilfn]⟩:=by kernel_rfl
theorem ty245:tyOf Tryz.prog 245=⟨.struct [(0,33),(1,39)],4,80,true,[.nils,.bool false,.nils,.nils]⟩:=by kernel_rfl
theorem ty246:tyOf Tryz.prog 246=⟨.struct [(0,33),(1,39)],4,80,true,[.nils,.bool false,.nils,.nils]⟩:=by kernel_rfl
theorem ty248:tyOf Tryz.prog 248=⟨.func,1,8,true,[.nilfn]⟩:=by kernel_rfl
theorem ty249:tyOf Tryz.prog 249=⟨.func,1,8,true,[.nilfn]⟩:=by kernel_rfl
theorem ty250:tyOf Tryz.prog 250=⟨.func,1,8,true,[.nilfn]⟩:=by kernel_rfl
theorem ty251:tyOf Tryz.prog 251=⟨.func,1,8,true,[.nilfn]⟩:=by kernel_rfl
theorem ty252:tyOf Tryz.prog 252=⟨.func,1,8,true,[.nilfn]⟩:=by kernel_rfl
theorem ty253:tyOf Tryz.prog 253=⟨.func,1,8,true,[.nilfn]⟩:=by kernel_rfl
theorem ty255:tyOf Tryz.prog 255=⟨.func,1,8,true,[.nilfn]⟩:=by kernel_rfl
theorem ty257:tyOf Tryz.prog 257=⟨.func,1,8,true,[.nilfn]⟩:=by kernel_rfl
theorem ty258:tyOf Tryz.prog 258=⟨.func,1,8,true,[.nilfn]⟩:=by kernel_rfl
theorem ty259:tyOf Tryz.prog 259=⟨.func,1,8,true,[.nilfn]⟩:=by kernel_rfl
theorem ty260:tyOf Tryz.prog 260=⟨.func,1,8,true,[.nilfn]⟩:=by kernel_rfl
theorem ty261:tyOf Tryz.prog 261=⟨.func,1,8,true,[.nilfn]⟩:=by kernel_rfl
theorem ty262:tyOf Tryz.prog 262=⟨.func,1,8,true,[.nilfn]⟩:=by kernel_rfl
theorem ty264:tyOf Tryz.prog 264=⟨.func,1,8,true,[.nilfn]⟩:=by kernel_rfl
theorem ty265:tyOf Tryz.prog 265=⟨.func,1,8,true,[.nilfn]⟩:=by kernel_rfl
theorem ty266:tyOf Tryz.prog 266=⟨.func,1,8,true,[.nilfn]⟩:=by kernel_rfl
theorem ty267:tyOf Tryz.prog 267=⟨.func,1,8,true,[.nilfn]⟩:=by kernel_rfl
theorem ty268:tyOf Tryz.prog 268=⟨.func,1,8,true,[.nilfn]⟩:=by kernel_rfl
theorem ty270:tyOf Tryz.prog 270=⟨.func,1,8,true,[.nilfn]⟩:=by kernel_rfl
theorem ty271:tyOf Tryz.prog 271=⟨.func,1,8,true,[.nilfn]⟩:=by kernel_rfl
theorem ty272:tyOf Tryz.prog 272=⟨.func,1,8,true,[.nilfn]⟩:=by kernel_rfl
theorem ty273:tyOf Tryz.prog 273=⟨.func,1,8,true,[.nilfn]⟩:=by kernel_rfl
theorem ty274:tyOf Tryz.prog 274=⟨.ptr 105,1,8,true,[.nilp]⟩:=by kernel_rfl
theorem ty275:tyOf Tryz.prog 275=⟨.func,1,8,true,[.nilfn]⟩:=by kernel_rfl
theorem ty276:tyOf Tryz.prog 276=⟨.func,1,8,true,[.nilfn]⟩:=by kernel_rfl
theorem ty277:tyOf Tryz.prog 277=⟨.func,1,8,true,[.nilfn]⟩:=by kernel_rfl
theorem ty278:tyOf Tryz.prog 278=⟨.func,1,8,true,[.nilfn]⟩:=by kernel_rfl
theorem ty279:tyOf Tryz.prog 279=⟨.func,1,8,true,[.nilfn]⟩:=by kernel_rfl
theorem ty280:tyOf Tryz.prog 280=⟨.func,1,8,true,[.nilfn]⟩:=by kernel_rfl
theorem ty281:tyOf Tryz.prog 281=⟨.func,1,8,true,[.nilfn]⟩:=by kernel_rfl
theorem ty285:tyOf Tryz.prog 285=⟨.func,1,8,true,[.nilfn]⟩:=by kernel_rfl
theorem ty286:tyOf Tryz.prog 286=⟨.func,1,8,true,[.nilfn]⟩:=by kernel_rfl
theorem ty287:tyOf Tryz.prog 287=⟨.func,1,8,true,[.nilfn]⟩:=by kernel_rfl
theorem ty289:tyOf Tryz.prog 289=⟨.func,1,8,true,[.nilfn]⟩:=by kernel_rfl
theorem ty290:tyOf Tryz.prog 290=⟨.func,1,8,true,[.nilfn]⟩:=by kernel_rfl
theorem ty291:tyOf Tryz.prog 291=⟨.func,1,8,true,[.nilfn]⟩:=by kernel_rfl
theorem ty296:tyOf Tryz.prog 296=⟨.func,1,8,true,[.nilfn]⟩:=by kernel_rfl
theorem ty297:tyOf Tryz.prog 297=⟨.func,1,8,true,[.nilfn]⟩:=by kernel_rfl
theorem ty298:tyOf Tryz.prog 298=⟨.func,1,8,true,[.nilfn]⟩:=by kernel_rfl
theorem ty300:tyOf Tryz.prog 300=⟨.func,1,8,true,[.nilfn]⟩:=by kernel_rfl
theorem ty303:tyOf Tryz.prog 303=⟨.func,1,8,true,[.nilfn]⟩:=by kernel_rfl
theorem ty304:tyOf Tryz.prog 304=⟨.func,1,8,true,[.nilfn]⟩:=by kernel_rfl
theorem ty305:tyOf Tryz.prog 305=⟨.func,1,8,true,[.nilfn]⟩:=by kernel_rfl
theorem ty306:tyOf Tryz.prog 306=⟨.func,1,8,true,[.nilfn]⟩:=by kernel_rfl
theorem ty307:tyOf Tryz.prog 307=⟨.func,1,8,true,[.nilfn]⟩:=by kernel_rfl
theorem ty309:tyOf Tryz.prog 309=⟨.func,1,8,true,[.nilfn]⟩:=by kernel_rfl
theorem ty310:tyOf Tryz.prog 310=⟨.func,1,8,true,[.nilfn]⟩:=by kernel_rfl
theorem ty312:tyOf Tryz.prog 312=⟨.func,1,8,true,[.nilfn]⟩:=by kernel_rfl
theorem ty313:tyOf Tryz.prog 313=⟨.func,1,8,true,[.nilfn]⟩:=by kernel_rfl
theorem ty314:tyOf Tryz.prog 314=⟨.func,1,8,true,[.nilfn]⟩:=by kernel_rfl
theorem ty315:tyOf Tryz.prog 315=⟨.func,1,8,true,[.nilfn]⟩:=by kernel_rfl
theorem ty316:tyOf Tryz.prog 316=⟨.ptr 103,1,8,true,[.nilp]⟩:=by kernel_rfl
theorem ty317:tyOf Tryz.prog 317=⟨.iface,1,16,true,[.nilif]⟩:=by kernel_rfl
theorem ty318:tyOf Tryz.prog 318=⟨.iface,1,16,true,[.nilif]⟩:=by kernel_rfl
theorem ty319:tyOf Tryz.prog 319=⟨.func,1,8,true,[.nilfn]⟩:=by kernel_rfl
theorem ty320:tyOf Tryz.prog 320=⟨.int .i64,1,8,true,[.int .i64 0]⟩:=by kernel_rfl
theorem ty322:tyOf Tryz.prog 322=⟨.func,1,8,true,[.nilfn]⟩:=by kernel_rfl
theorem ty323:tyOf Tryz.prog 323=⟨.func,1,8,true,[.nilfn]⟩:=by kernel_rfl
theorem ty324:tyOf Tryz.prog 324=⟨.func,1,8,true,[.nilfn]⟩:=by kernel_rfl
theorem ty325:tyOf Tryz.prog 325=⟨.func,1,8,true,[.nilfn]⟩:=by kernel_rfl
theorem ty326:tyOf Tryz.prog 326=⟨.func,1,8,true,[.nilfn]⟩:=by kernel_rfl
theorem ty328:tyOf Tryz.prog 328=⟨.func,1,8,true,[.nilfn]⟩:=by kernel_rfl
theorem ty329:tyOf Tryz.prog 329=⟨.int .u64,1,8,true,[.int .u64 0]⟩:=by kernel_rfl
theorem ty332:tyOf Tryz.prog 332=⟨.func,1,8,true,[.nilfn]⟩:=by kernel_rfl
theorem ty333:tyOf Tryz.prog 333=⟨.ptr 3,1,8,true,[.nilp]⟩:=by kernel_rfl
theorem ty334:tyOf Tryz.prog 334=⟨.func,1,8,true,[.nilfn]⟩:=by kernel_rfl
theorem ty335:tyOf Tryz.prog 335=⟨.func,1,8,true,[.nilfn]⟩:=by kernel_rfl
theorem ty336:tyOf Tryz.prog 336=⟨.ptr 329,1,8,true,[.nilp]⟩:=by kernel_rfl
theorem ty338:tyOf Tryz.prog 338=⟨.func,1,8,true,[.nilfn]⟩:=by kernel_rfl
theorem ty339:tyOf Tryz.prog 339=⟨.ptr 355,1,8,true,[.nilp]⟩:=by kernel_rfl
theorem ty340:tyOf Tryz.prog 340=⟨.func,1,8,true,[.nilfn]⟩:=by kernel_rfl
theorem ty348:tyOf Tryz.prog 348=⟨.func,1,8,true,[.nilfn]⟩:=by kernel_rfl
theorem ty354:tyOf Tryz.prog 354=⟨.struct [(0,9)],1,16,true,[.str (ByteArray.mk #[])]⟩:=by kernel_rfl
theorem ty355:tyOf Tryz.prog 355=⟨.struct [(0,9)],1,16,true,[.str (ByteArray.mk #[])]⟩:=by kernel_rfl
theorem zok3:zok Tryz.prog 3=true:=by kernel_rfl
theorem zok33:zok Tryz.prog 33=true:=by kernel_rfl
abbrev sT:=And.intro (And.intro (And.intro (And.intro (And.intro (And.intro (And.intro (And.intro @ty1 @ty2) (And.intro @ty3 @ty4)) (And.intro (And.intro @ty5 @ty9) (And.intro @ty19 @ty20))) (And.intro (And.intro (And.intro @ty21 @ty22) (And.intro @ty23 @ty24)) (And.intro (And.intro @ty25 @ty26) (And.intro @ty27 (And.intro @ty28 @ty29))))) (And.intro (And.intro (And.intro (And.intro @ty31 @ty32) (And.intro @ty33 @ty34)) (And.intro (And.intro @ty35 @ty36) (And.intro @ty37 (And.intro @ty38 @ty39)))) (And.intro (And.intro (And.intro @ty40 @ty41) (And.intro @ty42 @ty43)) (And.intro (And.intro @ty44 @ty45) (And.intro @ty47 (And.intro @ty48 @ty50)))))) (And.intro (And.intro (And.intro (And.intro (And.intro @ty51 @ty53) (And.intro @ty54 @ty55)) (And.intro (And.intro @ty56 @ty57) (And.intro @ty58 @ty59))) (And.intro (And.intro (And.intro @ty60 @ty61) (And.intro @ty62 @ty63)) (And.intro (And.intro @ty64 @ty65) (And.intro @ty66 (And.intro @ty67 @ty68))))) (And.intro (And.intro (And.intro (And.intro @ty69 @ty70) (And.intro @ty71 @ty72)) (And.intro (And.intro @ty73 @ty75) (And.intro @ty76 (And.intro @ty77 @ty78)))) (And.intro (And.intro (And.intro @ty79 @ty80) (And.intro @ty82 @ty84)) (And.intro (And.intro @ty85 @ty86) (And.intro @ty88 (And.intro @ty89 @ty90))))))) (And.intro (And.intro (And.intro (And.intro (And.intro (And.intro @ty91 @ty93) (And.intro @ty94 @ty95)) (And.intro (And.intro @ty96 @ty97) (And.intro @ty98 @ty99))) (And.intro (And.intro (And.intro @ty101 @ty102) (And.intro @ty103 @ty104)) (And.intro (And.intro @ty105 @ty107) (And.intro @ty108 (And.intro @ty109 @ty110))))) (And.intro (And.intro (And.intro (And.intro @ty111 @ty112) (And.intro @ty113 @ty114)) (And.intro (And.intro @ty115 @ty116) (And.intro @ty117 (And.intro @ty119 @ty121)))) (And.intro (And.intro (And.intro @ty122 @ty123) (And.intro @ty124 @ty125)) (And.intro (And.intro @ty126 @ty127) (And.intro @ty128 (And.intro @ty130 @ty131)))))) (And.intro (And.intro (And.intro (And.intro (And.intro @ty132 @ty134) (And.intro @ty135 @ty136)) (And.intro (And.intro @ty137 @ty138) (And.intro @ty139 @ty140))) (And.intro (And.intro (And.intro @ty141 @ty142) (And.intro @ty143 @ty145)) (And.intro (And.intro @ty146 @ty147) (And.intro @ty148 (And.intro @ty149 @ty151))))) (And.intro (And.intro (And.intro (And.intro @ty152 @ty153) (And.intro @ty154 @ty155)) (And.intro (And.intro @ty156 @ty157) (And.intro @ty158 (And.intro @ty161 @ty162)))) (And.intro (And.intro (And.intro @ty163 @ty164) (And.intro @ty166 @ty167)) (And.intro (And.intro @ty168 @ty169) (And.intro @ty170 (And.intro @ty171 @ty172)))))))) (And.intro (And.intro (And.intro (And.intro (And.intro (And.intro (And.intro @ty174 @ty175) (And.intro @ty176 @ty178)) (And.intro (And.intro @ty179 @ty181) (And.intro @ty182 @ty183))) (And.intro (And.intro (And.intro @ty184 @ty185) (And.intro @ty186 @ty187)) (And.intro (And.intro @ty188 @ty189) (And.intro @ty190 (And.intro @ty191 @ty192))))) (And.intro (And.intro (And.intro (And.intro @ty193 @ty194) (And.intro @ty195 @ty196)) (And.intro (And.intro @ty197 @ty199) (And.intro @ty200 (And.intro @ty201 @ty202)))) (And.intro (And.intro (And.intro @ty203 @ty204) (And.intro @ty205 @ty206)) (And.intro (And.intro @ty207 @ty208) (And.intro @ty210 (And.intro @ty211 @ty212)))))) (And.intro (And.intro (And.intro (And.intro (And.intro @ty214 @ty215) (And.intro @ty216 @ty217)) (And.intro (And.intro @ty218 @ty219) (And.intro @ty220 @ty221))) (And.intro (And.intro (And.intro @ty222 @ty224) (And.intro @ty225 @ty226)) (And.intro (And.intro @ty227 @ty228) (And.intro @ty229 (And.intro @ty230 @ty233))))) (And.intro (And.intro (And.intro (And.intro @ty234 @ty235) (And.intro @ty236 @ty237)) (And.intro (And.intro @ty238 @ty239) (And.intro @ty241 (And.intro @ty242 @ty243)))) (And.intro (And.intro (And.intro @ty244 @ty245) (And.intro @ty246 @ty248)) (And.intro (And.intro @ty249 @ty250) (And.intro @ty251 (And.intro @ty252 @ty253))))))) (And.intro (And.intro (And.intro (And.intro (And.intro (And.intro @ty255 @ty257) (And.intro @ty258 @ty259)) (And.intro (And.intro @ty260 @ty261) (And.intro @ty262 @ty264))) (And.intro (And.intro (And.intro @ty265 @ty266) (And.intro @ty267 @ty268)) (And.intro (And.intro @ty270 @ty271) (And.intro @ty272 (And.intro @ty273 @ty274))))) (And.intro (And.intro (And.intro (And.intro @ty275 @ty276) (And.intro @ty277 @ty278)) (And.intro (And.intro @ty279 @ty280) (And.intro @ty281 (And.intro @ty285 @ty286)))) (And.intro (And.intro (And.intro @ty287 @ty289) (And.intro @ty290 @ty291)) (And.intro (And.intro @ty296 @ty297) (And.intro @ty298 (And.intro @ty300 @ty303)))))) (And.intro (And.intro (And.intro (And.intro (And.intro @ty304 @ty305) (And.intro @ty306 @ty307)) (And.intro (And.intro @ty309 @ty310) (And.intro @ty312 @ty313))) (And.intro (And.intro (And.intro @ty314 @ty315) (And.intro @ty316 @ty317)) (And.intro (And.intro @ty318 @ty319) (And.intro @ty320 (And.intro @ty322 @ty323))))) (And.intro (And.intro (And.intro (And.intro @ty324 @ty325) (And.intro @ty326 @ty328)) (And.intro (And.intro @ty329 @ty332) (And.intro @ty333 (And.intro @ty334 @ty335)))) (And.intro (And.intro (And.intro @ty336 @ty338) (And.intro @ty339 @ty340)) (And.intro (And.intro @ty348 @ty354) (And.intro @ty355 (And.intro @zok3 @zok33))))))))
theorem mixed:Tryz.prog.follows .mixedOrders=true:=by kernel_rfl
end Go.Proofs.YtjmkfbhecgkbmaaGreat.Vm
namespace Go.Proofs.YtjmkfbhecgkbmaaGreat.Vm
open Go
def depsOf (o:Oper):List Nat:=(o.after.toList.filter (Region.binds .any)).map (·.on)
def reach (ops:Array Oper):Nat→List Nat→List Nat
 | 0,R=>R
 | k+1,R=>reach ops k (if R.contains k then R++((ops[k]?).map depsOf).getD [] else R)
theorem reach_listed {ops:Array Oper} {listed:Array Bool} (hcl:∀ k o,ops[k]?=some o→listed.getD k false=true→∀ e∈o.after,Region.binds .any e=true→listed.getD e.on false=true) :
  ∀ (k:Nat) (R:List Nat),(∀ x∈R,listed.getD x false=true)→∀ x∈reach ops k R,listed.getD x false=true
 | 0,R,h,x,hx=>h x hx
 | k+1,R,h,x,hx=>by
  refine reach_listed hcl k _ (fun y hy=>?_) x hx
  split at hy
  ·rename_i hk
   rcases List.mem_append.1 hy with hy | hy
   ·exact h y hy
   ·cases ho:ops[k]? with
    | none=>rw [ho] at hy;simp at hy
    | some o =>
     rw [ho] at hy
     simp only [Option.map_some,Option.getD_some,depsOf,List.mem_map,List.mem_filter] at hy
     obtain ⟨e,⟨he,hb⟩,rfl⟩:=hy
     exact hcl k o ho (h k (by simpa using hk)) e (by simpa using he) hb
  ·exact h y hy
def moveOf (o:Oper):Option (Nat × Nat):=match o.guard,o.op,o.dst with
 | none,.move (.tmp x),some d=>some (d,x)
 | _,_,_=>none
def plainOp (o:Oper):Bool:=match o.guard,o.op with
 | some _,_=>false
 | none,.select _ _=>false
 | none,_=>true
def moveAt (ops:Array Oper) (j:Nat):Option (Nat × Nat):=(ops[j]?).bind moveOf
def dstAt (ops:Array Oper) (j:Nat):Option Nat:=(ops[j]?).bind (·.dst)
def lateJ (ops:Array Oper) (m j:Nat):Bool:=!(reach ops m (((ops[m]?).map depsOf).getD [])).contains j
def pureOf (o:Oper):Option (Nat × Nat):=match o.guard,o.op,o.dst with
 | none,.move (.tmp x),some d=>some (d,x)
 | none,.extract (.tmp x) _,some d=>some (d,x)
 | _,_,_=>none
def freeAt (ops:Array Oper) (m k:Nat):Bool:=decide (m<k)&&(match ops[k]?,ops[k+1]? with
 | some o,some o'=>(pureOf o).isSome&&!ordered o' k
 | _,_=>false)
def lastNF (ops:Array Oper) (m:Nat):Nat→Nat
 | 0=>m
 | k+1=>if k≤m then m else if freeAt ops m k then lastNF ops m k else k
def pendable (ops:Array Oper) (m j:Nat):Bool:=(decide (j<m)&&lateJ ops m j) || freeAt ops m j
def behindOk (ops:Array Oper) (m j:Nat):Bool:=match (ops[j]?).bind pureOf with
 | none=>false
 | some (d,x)=>d != x&&(List.range ops.size).all fun k=>decide (k<m) || ((ops[k]?).map fun o=>plainOp o&&(decide (k≤j) || (o.dst != some d&&o.dst != some x&&(!(o.looksAt ops).contains d || (ordered o j&&!freeAt ops m k))))).getD false
def lateAt (ops:Array Oper) (m j:Nat):Bool:=match moveAt ops j with
 | none=>false
 | some (d,x)=>d != x&&((List.range (m+1)).all fun k=>(k == j || dstAt ops k != some d)&&dstAt ops k != some x)
def lateOk (ops:Array Oper) (m:Nat):Bool:=((List.range m).all fun j=>!lateJ ops m j || lateAt ops m j)&&(List.range ops.size).all fun j=>!pendable ops m j || behindOk ops m j
theorem lastNF_ge {ops:Array Oper} {m p:Nat} (hp:m≤p) (hf:freeAt ops m p=false):∀ k,p<k→p≤lastNF ops m k
 | 0,h=>by omega
 | k+1,h=>by
  unfold lastNF
  split
  ·omega
  ·split
   ·rename_i h1 h2
    refine lastNF_ge hp hf k ?_
    rcases Nat.lt_or_ge p k with h3 | h3
    ·exact h3
    ·have:p=k:=by omega
     subst this
     rw [hf] at h2
     cases h2
   ·omega
theorem lastNF_le {ops:Array Oper} {m:Nat}:∀ k,m<k→lastNF ops m k<k
 | 0,h=>by omega
 | k+1,h=>by
  unfold lastNF
  split
  ·omega
  ·split
   ·have:=lastNF_le (ops:=ops) (m:=m) k (by omega)
    omega
   ·omega
theorem pureOf_some {o:Oper} {d x:Nat} (h:pureOf o=some (d,x)):o.guard=none∧o.dst=some d∧(o.op = .move (.tmp x)∨∃ i,o.op = .extract (.tmp x) i):=by
 unfold pureOf at h
 split at h
 ·rename_i y e h1 h2 h3
  cases h
  exact ⟨h1,h3,.inl h2⟩
 ·rename_i y i e h1 h2 h3
  cases h
  exact ⟨h1,h3,.inr ⟨i,h2⟩⟩
 ·cases h
theorem behindOk_at {ops:Array Oper} {m j:Nat} (h:behindOk ops m j=true):∃ d x o,ops[j]?=some o∧pureOf o=some (d,x)∧d≠x ∧
  ∀ k o',m≤k→ops[k]?=some o'→plainOp o'=true∧(j<k→o'.dst≠some d∧o'.dst≠some x∧(d∉o'.looksAt ops∨(ordered o' j=true∧freeAt ops m k=false))):=by
 unfold behindOk at h
 cases ho:ops[j]? with
 | none=>rw [ho] at h;cases h
 | some o =>
  rw [ho] at h
  simp only [Option.bind_some] at h
  cases hp:pureOf o with
  | none=>rw [hp] at h;cases h
  | some dx =>
   obtain ⟨d,x⟩:=dx
   rw [hp] at h
   simp only [Bool.and_eq_true] at h
   refine ⟨d,x,o,rfl,hp,by simpa using h.1,fun k o' hk ho'=>?_⟩
   have hks:k<ops.size:=(Array.getElem?_eq_some_iff.1 ho').1
   have h2:=List.all_eq_true.1 h.2 k (by simpa using hks)
   rw [ho'] at h2
   simp only [Option.map_some,Option.getD_some,Bool.or_eq_true,decide_eq_true_eq,Bool.and_eq_true] at h2
   have h3:=h2.resolve_left (by omega)
   refine ⟨h3.1,fun hjk=>?_⟩
   have h4:=h3.2.resolve_left (by omega)
   refine ⟨by simpa using h4.1.1,by simpa using h4.1.2,?_⟩
   rcases h4.2 with h5 | h5
   ·exact .inl (by simpa using h5)
   ·exact .inr ⟨h5.1,by simpa using h5.2⟩
theorem moveOf_some {o:Oper} {d x:Nat} (h:moveOf o=some (d,x)):o.guard=none∧o.op = .move (.tmp x)∧o.dst=some d:=by
 unfold moveOf at h
 split at h
 ·rename_i y e h1 h2 h3
  cases h
  exact ⟨h1,h2,h3⟩
 ·cases h
theorem moveAt_some {ops:Array Oper} {j d x:Nat} (h:moveAt ops j=some (d,x)):∃ o,ops[j]?=some o∧o.guard=none∧o.op = .move (.tmp x)∧o.dst=some d:=by
 unfold moveAt at h
 cases ho:ops[j]? with
 | none=>rw [ho] at h;cases h
 | some o=>rw [ho] at h;exact ⟨o,rfl,moveOf_some h⟩
theorem lateAt_at {ops:Array Oper} {m j:Nat} (h:lateAt ops m j=true):∃ d x,moveAt ops j=some (d,x)∧d≠x∧(∀ k,k≤m→k≠j→dstAt ops k≠some d)∧(∀ k,k≤m→dstAt ops k≠some x):=by
 unfold lateAt at h
 split at h
 ·cases h
 ·rename_i d x hm
  rw [Bool.and_eq_true] at h
  obtain ⟨h1,h2⟩:=h
  have h2':∀ k,k≤m→(k=j∨dstAt ops k≠some d)∧dstAt ops k≠some x:=by
   intro k hk
   have:=List.all_eq_true.1 h2 k (by simp;omega)
   simpa using this
  exact ⟨d,x,hm,by simpa using h1,fun k hk hj=>(h2' k hk).1.resolve_left hj,fun k hk=>(h2' k hk).2⟩
def splitOk (ops:Array Oper) (L:List (Nat × Nat)) (m:Nat):Bool :=
 nwOk ops L m &&
 decide (m<ops.size) &&
 ((List.range ops.size).all fun k=>((ops[k]?).map fun o=>o.after.all fun e=>!Region.binds .any e || decide (e.on<k)).getD true) &&
 ((List.range m).all fun k=>(List.range k).all fun j=>pairOk ops L j k) &&
 lateOk ops m &&
 ((List.range ops.size).all fun k=>decide (k≤m) || ((ops[k]?).map fun o=>ordered o (lastNF ops m k)).getD true)
theorem splitOk_at {ops:Array Oper} {L:List (Nat × Nat)} {m:Nat} (h:splitOk ops L m=true):m<ops.size ∧
  (∀ k o,ops[k]?=some o→∀ e∈o.after,Region.binds .any e=true→e.on<k) ∧
  (∀ k o,k<m→ops[k]?=some o→∀ j x,j<k→ops[j]?=some x→ordered o j=true∨(Oper.apart ops x o=true∧(memOk x o=true∨(j,k)∈L))) ∧
  (∀ o,ops[m]?=some o→∀ listed:Array Bool,(∀ k o,ops[k]?=some o→listed.getD k false=true→∀ e∈o.after,Region.binds .any e=true→listed.getD e.on false=true)→(∀ e∈o.after,Region.binds .any e=true→listed.getD e.on false=true)→∀ j,j<m→lateJ ops m j=false→listed.getD j false=true) ∧
  (∀ k o,m<k→ops[k]?=some o→ordered o (lastNF ops m k)=true)∧(∀ j,j<m→lateJ ops m j=true→lateAt ops m j=true)∧(∀ j,j<ops.size→pendable ops m j=true→behindOk ops m j=true):=by
 unfold splitOk at h
 rw [Bool.and_eq_true,Bool.and_eq_true,Bool.and_eq_true,Bool.and_eq_true,Bool.and_eq_true,decide_eq_true_eq] at h
 obtain ⟨⟨⟨⟨⟨_,h1⟩,h2⟩,h3⟩,h4⟩,h5⟩:=h
 refine ⟨h1,fun k o ho e he hb=>?_,fun k o hk ho j x hj hx=>?_,fun o ho listed hcl hd j hj hlj=>?_,fun k o hk ho=>?_,fun j hj hlj=>?_,fun j hj hpj=>?_⟩
 ·have hks:k<ops.size:=(Array.getElem?_eq_some_iff.1 ho).1
  have:=List.all_eq_true.1 h2 k (by simpa using hks)
  rw [ho] at this
  simp only [Option.map_some,Option.getD_some,Array.all_eq_true_iff_forall_mem] at this
  have:=this e he
  rw [hb] at this
  simpa using this
 ·have:=List.all_eq_true.1 (List.all_eq_true.1 h3 k (by simpa using hk)) j (by simpa using hj)
  unfold pairOk at this
  rw [hx,ho] at this
  simpa using this
 ·unfold lateJ at hlj
  have:(reach ops m (((ops[m]?).map depsOf).getD [])).contains j=true:=by simpa using hlj
  rw [ho] at this
  refine reach_listed hcl m _ (fun x hx=>?_) j (by simpa using this)
  simp only [Option.map_some,Option.getD_some,depsOf,List.mem_map,List.mem_filter] at hx
  obtain ⟨e,⟨he,hb⟩,rfl⟩:=hx
  exact hd e (by simpa using he) hb
 ·have hks:k<ops.size:=(Array.getElem?_eq_some_iff.1 ho).1
  have:=List.all_eq_true.1 h5 k (by simpa using hks)
  rw [ho] at this
  simp only [Option.map_some,Option.getD_some,Bool.or_eq_true,decide_eq_true_eq] at this
  exact this.resolve_left (by omega)
 ·unfold lateOk at h4
  rw [Bool.and_eq_true] at h4
  have:=List.all_eq_true.1 h4.1 j (by simpa using hj)
  rw [hlj] at this
  simpa using this
 ·unfold lateOk at h4
  rw [Bool.and_eq_true] at h4
  have:=List.all_eq_true.1 h4.2 j (by simpa using hj)
  rw [hpj] at this
  simpa using this
section
variable {P:Program} {pins:List Nat} {ops:Array Oper}
theorem splitOk_nw {ops:Array Oper} {L:List (Nat × Nat)} {m:Nat} (h:splitOk ops L m=true):nwOk ops L m=true:=by
 unfold splitOk at h
 rw [Bool.and_eq_true,Bool.and_eq_true,Bool.and_eq_true,Bool.and_eq_true,Bool.and_eq_true] at h
 exact h.1.1.1.1.1
structure GoodM (P:Program) (pins:List Nat) (ops:Array Oper) (L:List (Nat × Nat)) (m:Nat) (fs:List Eff) (s0:St):Prop where
 len:fs.length=m
 does:∀ k f o,fs[k]?=some f→ops[k]?=some o→Does P (nwL ops L) pins ops o f (Dst (fun i=>decide (i<k)) 0 fs s0)
 sep:∀ j k f g,(j,k)∈L→fs[j]?=some f→fs[k]?=some g→sepP (f.rd,f.wi) (g.rd,g.wi)
theorem anyM_sound {L:List (Nat × Nat)} {fs:List Eff} {s0:St} {fr:Fr} {Q:Exit→Act→World→Prop} (hp:fr.pins=pins) {m:Nat} (hok:splitOk ops L m=true) (hg:GoodM P pins ops L m fs s0) (H:∀ (fuel:Nat) (listed:Array Bool) (a:Act) (w:World) (ρ:Pl),listed.size=ops.size→(∀ j,j<m→lateJ ops m j=false→listed.getD j false=true)→(∀ j,m≤j→listed.getD j false=false)→unl listed ops.size≤fuel→Rep fr ρ (Dst (fun i=>listed.getD i false) 0 fs s0) a w→wpAny P .any ops Q fuel listed a w) :
  ∀ (fuel:Nat) (listed:Array Bool) (a:Act) (w:World) (ρ:Pl),listed.size=ops.size→(∀ k o,ops[k]?=some o→listed.getD k false=true→∀ e∈o.after,Region.binds .any e=true→listed.getD e.on false=true)→(∀ j,m≤j→listed.getD j false=false) →
   unl listed ops.size≤fuel→Rep fr ρ (Dst (fun i=>listed.getD i false) 0 fs s0) a w→wpAny P .any ops Q fuel listed a w:=by
 have gd:∀ (listed:Array Bool) (i:Nat),listed.size=ops.size→i<ops.size→listed.getD i true=listed.getD i false:=by
  intro listed i hs hi
  have:i<listed.size:=by omega
  simp [this]
 obtain ⟨hm,hdeps,hpairs,hreach,hchain,hlate,hbehind⟩:=splitOk_at hok
 have emp:∀ (listed:Array Bool),listed.size=ops.size→Region.ready .any ops listed=[]→∀ j,j<ops.size→listed.getD j false=true:=by
  intro listed hs hr
  have key:∀ n j,j<n→j<ops.size→listed.getD j false=true:=by
   intro n
   induction n with
   | zero=>intro j hj;omega
   | succ n ih =>
    intro j hj hjs
    cases hl:listed.getD j false with
    | true=>rfl
    | false =>
     exfalso
     have ho:ops[j]?=some ops[j]:=Array.getElem?_eq_getElem hjs
     have:j∈Region.ready .any ops listed:=by
      rw [mem_ready]
      refine ⟨by rw [gd listed j hs hjs];exact hl,_,ho,fun e he hb=>?_⟩
      have:=hdeps j _ ho e he hb
      exact ih e.on (by omega) (by omega)
     rw [hr] at this
     cases this
  exact fun j hj=>key (j+1) j (by omega) hj
 intro fuel
 induction fuel with
 | zero =>
  intro listed a w ρ hs hcl hup hu hrep
  exfalso
  have hmf:=hup m (Nat.le_refl _)
  have:0<unl listed ops.size:=by
   unfold unl
   rw [List.countP_pos_iff]
   exact ⟨m,by simpa using hm,by rw [gd listed m hs hm,hmf];rfl⟩
  omega
 | succ fuel ih =>
  intro listed a w ρ hs hcl hup hu hrep
  by_cases hall:∀ j,j<m→lateJ ops m j=false→listed.getD j false=true
  ·exact H _ listed a w ρ hs hall hup hu hrep
  refine ⟨fun hr=>absurd (emp listed hs hr m hm) (by rw [hup m (Nat.le_refl _)];simp),fun k hk=>?_⟩
  rw [mem_ready] at hk
  obtain ⟨hk1,o,ho,hdep⟩:=hk
  have hks:k<ops.size:=(Array.getElem?_eq_some_iff.1 ho).1
  have hk0:listed.getD k false=false:=by rw [← gd listed k hs hks];exact hk1
  have hkm:k<m:=by
   rcases Nat.lt_trichotomy k m with h | h | h
   ·exact h
   ·subst h
    exact absurd (hreach o ho listed hcl hdep) hall
   ·exfalso
    have h1:=hchain k o h ho
    unfold ordered at h1
    rw [Array.any_eq_true'] at h1
    obtain ⟨e,he,hb⟩:=h1
    simp only [Bool.and_eq_true,beq_iff_eq] at hb
    have h2:=hdep e he hb.1
    rw [hb.2,hup _ (lastNF_ge (Nat.le_refl m) (by simp [freeAt]) k h)] at h2
    cases h2
  have hkl:k<listed.size:=by omega
  obtain ⟨f,hf⟩:∃ f,fs[k]?=some f:=⟨_,List.getElem?_eq_getElem (by rw [hg.len];exact hkm)⟩
  obtain ⟨hd1,hd2,hd3,hd4⟩:=hg.does k f o hf ho
  have hlisted:∀ j,ordered o j=true→listed.getD j false=true:=by
   intro j hj
   unfold ordered at hj
   rw [Array.any_eq_true'] at hj
   obtain ⟨e,he,hb⟩:=hj
   simp only [Bool.and_eq_true,beq_iff_eq] at hb
   rw [← hb.2]
   exact hdep e he hb.1
  have hopen:∀ j x,ops[j]?=some x→ordered x k=true→listed.getD j false=false:=by
   intro j x hx hj
   cases hl:listed.getD j false with
   | false=>rfl
   | true =>
    exfalso
    unfold ordered at hj
    rw [Array.any_eq_true'] at hj
    obtain ⟨e,he,hb⟩:=hj
    simp only [Bool.and_eq_true,beq_iff_eq] at hb
    have:=hcl j x hx hl e he hb.1
    rw [hb.2,hk0] at this
    cases this
  have rel:∀ j g x,j≠k→fs[j]?=some g→ops[j]?=some x→(listed.getD j false=decide (j<k)) ∨
    ((∀ t,g.dst=some t→t∉o.looksAt ops)∧(∀ d,g.dst=some d→f.dst≠some d)∧(∀ i,g.wi=some i→f.rd≠some i∧f.wi≠some i)):=by
   intro j g x hjk hgj hxj
   obtain ⟨hx1,hx2,hx3,_⟩:=hg.does j g x hgj hxj
   rcases Nat.lt_or_gt_of_ne hjk with hlt | hgt
   ·rcases hpairs k o hkm ho j x hlt hxj with h1 | ⟨h1,h2⟩
    ·exact .inl (by rw [hlisted j h1];simp [hlt])
    ·right
     obtain ⟨a1,a2,a3⟩:=Oper.apart_spec h1
     refine ⟨fun t ht=>a1 t (hx1 ▸ ht),fun d hd=>by rw [hd1];exact a2 d (hx1 ▸ hd),fun i hi=>?_⟩
     rcases h2 with h2 | h2
     ·have hxw:Op.mw x.op=true:=(hx3 (by rw [hi];simp)).1
      unfold memOk at h2
      rw [hxw] at h2
      simp only [Bool.true_and,Bool.not_or,Bool.and_eq_true,Bool.not_eq_true'] at h2
      refine ⟨fun hr=>?_,fun hr=>?_⟩
      ·have:=hd2 (by rw [hr];simp)
       rw [this] at h2;exact absurd h2.1.1 (by simp)
      ·have:=(hd3 (by rw [hr];simp)).1
       rw [this] at h2;exact absurd h2.1.2 (by simp)
     ·have h3:=(hg.sep j k g f h2 hgj hf).1
      simp only [hi] at h3
      rcases h3 with h3 | h3
      ·cases h3
      ·exact ⟨fun h=>h3.1 h.symm,fun h=>h3.2 h.symm⟩
   ·have hjm:j<m:=by
     have:=(List.getElem?_eq_some_iff.1 hgj).1
     rwa [hg.len] at this
    rcases hpairs j x hjm hxj k o hgt ho with h1 | ⟨h1,h2⟩
    ·exact .inl (by rw [hopen j x hxj h1];simp;omega)
    ·right
     obtain ⟨a1,a2,a3⟩:=Oper.apart_spec h1
     refine ⟨fun t ht=>a3 t (hx1 ▸ ht),fun d hd hfd=>a2 d (hd1 ▸ hfd) (hx1 ▸ hd),fun i hi=>?_⟩
     rcases h2 with h2 | h2
     ·have hxw:Op.mw x.op=true:=(hx3 (by rw [hi];simp)).1
      unfold memOk at h2
      rw [hxw] at h2
      simp only [Bool.or_true,Bool.and_true,Bool.not_or,Bool.and_eq_true,Bool.not_eq_true'] at h2
      refine ⟨fun hr=>?_,fun hr=>?_⟩
      ·have:=hd2 (by rw [hr];simp)
       rw [this] at h2;exact absurd h2.2 (by simp)
      ·have:=(hd3 (by rw [hr];simp)).1
       rw [this] at h2;exact absurd h2.1 (by simp)
     ·obtain ⟨h4,h3⟩:=hg.sep k j f g h2 hf hgj
      simp only [hi] at h3 h4
      refine ⟨fun h=>?_,fun h=>?_⟩
      ·rcases h3 with h3 | h3
       ·cases h3
       ·exact h3 h.symm
      ·rcases h4 with h4 | h4
       ·rw [h] at h4;cases h4
       ·exact h4.2 h
  have opAt:∀ j g,fs[j]?=some g→∃ x,ops[j]?=some x:=fun j g hj=>by
   have:j<fs.length:=(List.getElem?_eq_some_iff.1 hj).1
   exact ⟨_,Array.getElem?_eq_getElem (by rw [hg.len] at this;omega)⟩
  have henv:∀ t∈o.looksAt ops,(Dst (fun i=>listed.getD i false) 0 fs s0).env[t]?=(Dst (fun i=>decide (i<k)) 0 fs s0).env[t]?:=by
   intro t ht
   refine Dst_env fs 0 s0 s0 rfl fun j g hj hd=>?_
   simp only [Nat.zero_add]
   by_cases hjk:j=k
   ·subst hjk;rw [hk0];simp
   ·obtain ⟨x,hx⟩:=opAt j g hj
    rcases rel j g x hjk hj hx with h1 | h1
    ·exact h1
    ·exact absurd ht (h1.1 t hd)
  have hhp:∀ i,f.rd=some i∨f.wi=some i→(Dst (fun i=>listed.getD i false) 0 fs s0).hp[i]?=(Dst (fun i=>decide (i<k)) 0 fs s0).hp[i]?:=by
   intro i hi
   refine Dst_hp fs 0 s0 s0 rfl fun j g hj hd=>?_
   simp only [Nat.zero_add]
   by_cases hjk:j=k
   ·subst hjk;rw [hk0];simp
   ·obtain ⟨x,hx⟩:=opAt j g hj
    rcases rel j g x hjk hj hx with h1 | h1
    ·exact h1
    ·obtain ⟨h2,h3⟩:=h1.2.2 i hd
     rcases hi with hi | hi
     ·exact absurd hi h2
     ·exact absurd hi h3
  have hnw:Op.isCall o.op=true→∀ i,nwL ops L i=true→(Dst (fun i=>listed.getD i false) 0 fs s0).hp[i]?=(Dst (fun i=>decide (i<k)) 0 fs s0).hp[i]?:=by
   intro hc i hi
   refine Dst_hp fs 0 s0 s0 rfl fun j g hj hd=>?_
   simp only [Nat.zero_add]
   by_cases hjk:j=k
   ·subst hjk;rw [hk0];simp
   ·obtain ⟨x,hx⟩:=opAt j g hj
    obtain ⟨_,_,hx3,_⟩:=hg.does j g x hj hx
    obtain ⟨hmw,hst⟩:=hx3 (by rw [hd];simp)
    have hjm:j<m:=by have:=(List.getElem?_eq_some_iff.1 hj).1;rw [hg.len] at this;exact this
    rcases nwOk_at (splitOk_nw hok) hi with h | ⟨h1,h2⟩
    ·rw [h j x hjm hx] at hmw;cases hmw
    ·have hs':Op.st x.op=true:=hst.resolve_right fun he=>h1 j x hx hmw (by rw [← he,hd])
     rcases Nat.lt_or_gt_of_ne hjk with hlt | hgt
     ·rw [hlisted j (h2 j k x o hlt hkm hx ho (.inr ⟨hs',hc⟩))];simp [hlt]
     ·rw [hopen j x hx (h2 k j o x hgt hjm ho hx (.inl ⟨hc,hs'⟩))];simp;omega
  have hins:Dst (fun i=>(listed.setIfInBounds k true).getD i false) 0 fs s0=f.app (Dst (fun i=>listed.getD i false) 0 fs s0):=by
   refine Dst_insert fs k 0 s0 hf (by simpa using hk0) (by simp [hkl]) (fun j hj=>?_) fun j g hj hgj hS=>?_
   ·simp only [Nat.zero_add]
    exact getD_set_ne false (Ne.symm hj)
   ·simp only [Nat.zero_add] at hS
    obtain ⟨x,hx⟩:=opAt j g hgj
    rcases rel j g x (by omega) hgj hx with h1 | h1
    ·rw [h1] at hS;simp at hS;omega
    ·exact ⟨fun d hd hgd=>h1.2.1 d hgd hd,fun i hi hgi=>(h1.2.2 i hgi).2 hi⟩
  have next:∀ a' w',Ends fr (·=f.app (Dst (fun i=>listed.getD i false) 0 fs s0)) a' w'→wpAny P .any ops Q fuel (listed.setIfInBounds k true) a' w':=by
   rintro a' w' ⟨s',ρ',rfl,hrep'⟩
   refine ih _ a' w' ρ' (by simpa using hs) ?_ ?_ ?_ (by rw [hins];exact hrep')
   ·intro j x hx hl e he hb
    by_cases hjk:j=k
    ·subst hjk
     rw [ho] at hx
     cases hx
     exact getD_set_true (hdep e he hb)
    ·rw [getD_set_ne false (Ne.symm hjk)] at hl
     exact getD_set_true (hcl j x hx hl e he hb)
   ·intro j hj
    rw [getD_set_ne false (by omega)]
    exact hup j hj
   ·have:unl (listed.setIfInBounds k true) ops.size<unl listed ops.size:=by
     refine countP_lt (fun i hi h=>?_) ⟨k,by simpa using hks,by rw [hk1];rfl,by simp [hkl]⟩
     by_cases hik:i=k
     ·subst hik;simp [hkl] at h
     ·rw [getD_set_ne true (Ne.symm hik)] at h;exact h
    omega
  unfold wpOp
  rw [ho]
  simp only
  rcases hd4 with ⟨hw,hfit,_⟩ | ⟨hw,hfe⟩
  ·rw [← wantB_congr henv] at hw
   rw [if_pos (wantB_sound hrep.env hw)]
   refine .inl (Oper.wp_mono next (hfit _ _ (fun x hx=>?_) hhp hnw fr ρ a w Q hp hrep))
   cases x with
   | tmp t =>
    simp only [ev,List.getD_eq_getElem?_getD]
    rw [henv t (List.mem_append_left _ (List.mem_filterMap.2 ⟨.tmp t,hx,rfl⟩))]
   | _=>rfl
  ·rw [← wantB_congr henv] at hw
   rw [if_neg (by rw [wantB_sound hrep.env hw];simp)]
   refine next _ _ ⟨_,ρ,rfl,?_⟩
   have:=hrep.put o.dst (x := .und) (v:=undef) (by simp only [Rp])
   rw [hfe]
   exact this
theorem chain_sound {fr:Fr} (hp:fr.pins=pins) {L:List (Nat × Nat)} {m:Nat} (hok:splitOk ops L m=true) (hnf:∀ k,freeAt ops m k=false) {K:St→Prop} {Q:Exit→Act→World→Prop} (hQ:∀ a w,Ends fr K a w→Q .normal a w) :
  ∀ (rest:List Oper) (i:Nat),m≤i→ops.toList.drop i=rest→∀ (fuel:Nat) (listed:Array Bool) (s:St) (a:Act) (w:World) (ρ:Pl),listed.size=ops.size→(∀ j,j<ops.size→listed.getD j false=decide (j<i))→unl listed ops.size≤fuel →
   Rep fr ρ s a w→opsW P pins ops rest s K→wpAny P .any ops Q fuel listed a w:=by
 obtain ⟨hm,hdeps,hpairs,hreach,hchain,hlate,hbehind⟩:=splitOk_at hok
 have gd:∀ (listed:Array Bool) (i:Nat),listed.size=ops.size→i<ops.size→listed.getD i true=listed.getD i false:=by
  intro listed i hs hi
  have:i<listed.size:=by omega
  simp [this]
 intro rest
 induction rest with
 | nil =>
  intro i hi hrest fuel listed s a w ρ hs hl hu hr hk
  have hsz:ops.size≤i:=by
   have:=congrArg List.length hrest
   simp at this
   omega
  have hnone:Region.ready .any ops listed=[]:=by
   refine List.eq_nil_iff_forall_not_mem.2 fun k hk=>?_
   rw [mem_ready] at hk
   obtain ⟨h1,o,ho,_⟩:=hk
   have hks:k<ops.size:=(Array.getElem?_eq_some_iff.1 ho).1
   rw [gd listed k hs hks,hl k hks] at h1
   simp at h1
   omega
  have hq:Q .normal a w:=hQ a w ⟨s,ρ,hk,hr⟩
  cases fuel with
  | zero=>exact ⟨hnone,hq⟩
  | succ fuel=>exact ⟨fun _=>hq,fun k hk=>by rw [hnone] at hk;cases hk⟩
 | cons o rest ih =>
  intro i hi hrest fuel listed s a w ρ hs hl hu hr hk
  have his:i<ops.size:=by
   rcases Nat.lt_or_ge i ops.size with h | h
   ·exact h
   ·rw [List.drop_eq_nil_of_le (by simpa using h)] at hrest
    cases hrest
  have hoi:ops[i]?=some o:=by
   have h1:(ops.toList.drop i)[0]?=some o:=by rw [hrest];rfl
   rw [List.getElem?_drop] at h1
   simpa using h1
  have hnext:ops.toList.drop (i+1)=rest:=by
   have h1:(ops.toList.drop i).drop 1=rest:=by rw [hrest];rfl
   rw [List.drop_drop] at h1
   exact h1
  have hil:i<listed.size:=by omega
  have hli:listed.getD i true=false:=by rw [gd listed i hs his,hl i his];simp
  have hlt:unl (listed.setIfInBounds i true) ops.size<unl listed ops.size:=by
   refine countP_lt (fun j hj h=>?_) ⟨i,by simpa using his,by rw [hli];rfl,by simp [hil]⟩
   by_cases hik:j=i
   ·subst hik;simp [hil] at h
   ·rw [getD_set_ne true (Ne.symm hik)] at h;exact h
  cases fuel with
  | zero=>omega
  | succ fuel =>
  have hl':∀ j,j<ops.size→(listed.setIfInBounds i true).getD j false=decide (j<i+1):=by
   intro j hj
   by_cases hji:j=i
   ·subst hji;simp [hil]
   ·rw [getD_set_ne false (Ne.symm hji),hl j hj]
    simp only [decide_eq_decide]
    omega
  have go:∀ (s':St) (a':Act) (w':World) (ρ':Pl),Rep fr ρ' s' a' w'→opsW P pins ops rest s' K→wpAny P .any ops Q fuel (listed.setIfInBounds i true) a' w' :=
   fun s' a' w' ρ' hr' hk'=>ih (i+1) (by omega) hnext fuel _ s' a' w' ρ' (by simpa using hs) hl' (by omega) hr' hk'
  refine ⟨fun hn=>?_,fun k hkr=>?_⟩
  ·exfalso
   have:i∈Region.ready .any ops listed:=by
    rw [mem_ready]
    refine ⟨hli,o,hoi,fun e he hb=>?_⟩
    have:=hdeps i o hoi e he hb
    rw [hl e.on (by omega)]
    simpa using this
   rw [hn] at this
   cases this
  ·have hki:k=i:=by
    rw [mem_ready] at hkr
    obtain ⟨h1,x,hx,hd⟩:=hkr
    have hks:k<ops.size:=(Array.getElem?_eq_some_iff.1 hx).1
    rw [gd listed k hs hks,hl k hks] at h1
    have hik:i≤k:=by simpa using h1
    rcases Nat.lt_or_ge i k with h | h
    ·exfalso
     have h2:=hchain k x (by omega) hx
     have h0:lastNF ops m k=k-1:=by
      have e1:=lastNF_ge (ops:=ops) (m:=m) (p:=k-1) (by omega) (hnf _) k (by omega)
      have e2:=lastNF_le (ops:=ops) (m:=m) k (by omega)
      omega
     rw [h0] at h2
     unfold ordered at h2
     rw [Array.any_eq_true'] at h2
     obtain ⟨e,he,hb⟩:=h2
     simp only [Bool.and_eq_true,beq_iff_eq] at hb
     have h3:=hd e he hb.1
     rw [hb.2,hl (k-1) (by omega)] at h3
     simp at h3
     omega
    ·omega
   subst hki
   unfold wpOp
   rw [hoi]
   simp only
   unfold opsW at hk
   have step:∀ (hw:Region.wanted o (yielded ops a.tmps)=true),(opW P pins o s fun s'=>opsW P pins ops rest s' K)→(if Region.wanted o (yielded ops a.tmps)=true then o.wp P a w (wpAny P .any ops Q fuel (listed.setIfInBounds k true)) Q∨(o.asks P a w∧LetsOut Q) else wpAny P .any ops Q fuel (listed.setIfInBounds k true) (a.put o.dst undef) w):=by
    intro hw hk
    rw [if_pos hw]
    refine .inl (Oper.wp_mono (fun a' w' he=>?_) (opW_sound (Q:=Q) hp hr hk))
    obtain ⟨s',ρ',h2,h3⟩:=he
    exact go s' a' w' ρ' h3 h2
   have skip:∀ (hw:Region.wanted o (yielded ops a.tmps)=false),opsW P pins ops rest (s.ret o.dst .und) K→(if Region.wanted o (yielded ops a.tmps)=true then o.wp P a w (wpAny P .any ops Q fuel (listed.setIfInBounds k true)) Q∨(o.asks P a w∧LetsOut Q) else wpAny P .any ops Q fuel (listed.setIfInBounds k true) (a.put o.dst undef) w):=by
    intro hw hk
    rw [if_neg (by rw [hw];simp)]
    exact go _ _ w ρ (hr.put o.dst (x := .und) (v:=undef) (by simp only [Rp])) hk
   split at hk
   ·rename_i hg
    exact step (by simp [Region.wanted,hg]) hk
   ·rename_i j want hg
    obtain ⟨g1,g2⟩:=guard_sound (ops:=ops) hr.env j
    split at hk
    ·rename_i b hb
     have hy:=g1 b hb
     by_cases hbw:b=want
     ·have h1:=hk.1 hbw
      rw [← hbw,known_eq hb] at h1
      exact step (by simp [Region.wanted,hg,hy,hbw]) h1
     ·have hb2:b=!want:=by cases b <;> cases want <;> simp_all
      have h2:=hk.2 hb2
      rw [← hb2,known_eq hb] at h2
      refine skip ?_ h2
      rw [hb2] at hy
      simp [Region.wanted,hg,hy]
    ·rename_i hb
     have hy:=g2 hb
     exact skip (by simp [Region.wanted,hg,hy]) hk
    ·exact hk.elim
theorem set_get (l:List AV) (i j:Nat) (z:AV):(l.set i z)[j]?=if i=j then (l[j]?).map (fun _=>z) else l[j]?:=by
 rw [List.getElem?_set]
 by_cases h:i=j
 ·subst h
  rw [if_pos rfl,if_pos rfl]
  by_cases hl:i<l.length
  ·rw [if_pos hl,List.getElem?_eq_getElem hl];rfl
  ·rw [if_neg hl,List.getElem?_eq_none (by omega)];rfl
 ·rw [if_neg h,if_neg h]
def LateA (ops:Array Oper) (m:Nat) (listed:Array Bool) (a a':Act):Prop :=
 a'.defers=a.defers∧(∀ t,(∀ j d x,j<m→listed.getD j false=false→moveAt ops j=some (d,x)→d≠t)→a'.tmps[t]?=a.tmps[t]?) ∧
 ∀ j d x,j<m→listed.getD j false=false→moveAt ops j=some (d,x)→a'.tmps[d]?=(a.tmps[d]?).map fun _=>a.eval (.tmp x)
theorem put_get (a:Act) (i j:Nat) (z:Value):(a.put (some i) z).tmps[j]?=if i=j then (a.tmps[j]?).map (fun _=>z) else a.tmps[j]?:=by
 show (a.tmps.setIfInBounds i z)[j]?=_
 rw [Array.getElem?_setIfInBounds]
 by_cases h:i=j
 ·subst h
  rw [if_pos rfl,if_pos rfl]
  by_cases hl:i<a.tmps.size
  ·rw [if_pos hl,Array.getElem?_eq_getElem hl];rfl
  ·rw [if_neg hl,Array.getElem?_eq_none (by omega)];rfl
 ·rw [if_neg h,if_neg h]
theorem eval_tmp (a:Act) (x:Nat):a.eval (.tmp x)=(a.tmps[x]?).getD undef:=by
 simp [Act.eval]
def pureAt (ops:Array Oper) (j:Nat):Option (Nat × Nat):=(ops[j]?).bind pureOf
theorem pureAt_some {j d x:Nat} (h:pureAt ops j=some (d,x)):∃ o,ops[j]?=some o∧pureOf o=some (d,x):=by
 unfold pureAt at h
 cases ho:ops[j]? with
 | none=>rw [ho] at h;cases h
 | some o=>rw [ho] at h;exact ⟨o,rfl,h⟩
theorem pureAt_of {j d x:Nat} {o:Oper} (ho:ops[j]?=some o) (hp:pureOf o=some (d,x)):pureAt ops j=some (d,x):=by unfold pureAt;rw [ho];exact hp
theorem pure_looks {ops:Array Oper} {o:Oper} {d x:Nat} (h:pureOf o=some (d,x)):o.looksAt ops=[x]:=by
 obtain ⟨h1,_,h2⟩:=pureOf_some h
 unfold Oper.looksAt
 rw [h1]
 rcases h2 with h2 | ⟨i,h2⟩ <;> rw [h2] <;> simp [Op.operands]
theorem pure_nosel {o:Oper} {d x:Nat} (h:pureOf o=some (d,x)):∀ cs b,o.op ≠ .select cs b:=by
 obtain ⟨_,_,h2⟩:=pureOf_some h
 intro cs b hs
 rcases h2 with h2 | ⟨i,h2⟩ <;> rw [h2] at hs <;> cases hs
theorem plain_nosel {o:Oper} (ho:plainOp o=true):o.guard=none∧∀ cs b,o.op ≠ .select cs b:=by
 unfold plainOp at ho
 split at ho
 ·cases ho
 ·cases ho
 ·rename_i h1 h2 h3
  exact ⟨by assumption,fun cs b h=>by simp_all⟩
theorem exec_pure_put {ops:Array Oper} {o:Oper} {d x:Nat} (h:pureOf o=some (d,x)) (a:Act) (dst:Option Nat) (u:Value) (hd:dst≠some x):execOp (a.put dst u).eval o=execOp a.eval o :=
 execOp_put (ops:=ops) o (pure_nosel h) a dst u fun e he=>by
  rw [pure_looks h]
  subst he
  simp only [List.mem_singleton]
  exact fun h=>hd (by rw [h])
theorem pure_run {o:Oper} {d x:Nat} (h:pureOf o=some (d,x)) {a:Act} {w:World} {N:Act→World→Prop} (hw:o.wp P a w N fun _ _ _=>False):∃ v,(∀ w',(execOp a.eval o).run P w' = .ok (.value v) w')∧N (a.put o.dst v) w:=by
 obtain ⟨_,_,h2⟩:=pureOf_some h
 unfold Oper.wp at hw
 rcases h2 with h2 | ⟨i,h2⟩
 ·have hr:∀ w',(execOp a.eval o).run P w' = .ok (.value (a.eval (.tmp x))) w':=fun w'=>by unfold execOp;simp only [h2];rfl
  rw [hr w] at hw
  exact ⟨_,hr,hw⟩
 ·have key:(∃ v,∀ w',(execOp a.eval o).run P w' = .ok (.value v) w')∨¬ o.upon P a N (fun _ _ _=>False) ((execOp a.eval o).run P w):=by
   unfold execOp
   simp only [h2]
   unfold Instr.extract
   split
   ·split
    ·rename_i v _;exact .inl ⟨v,fun w'=>by simp⟩
    ·exact .inr fun h=>by simp [stuck,Oper.upon] at h
   ·exact .inr fun h=>by simp [stuck,Oper.upon] at h
  rcases key with ⟨v,hr⟩ | hn
  ·rw [hr w] at hw
   exact ⟨v,hr,hw⟩
  ·exact absurd hw hn
def PendA (P:Program) (ops:Array Oper) (p:Nat) (listed:Array Bool) (a a1:Act):Prop :=
 a1.defers=a.defers∧(∀ t,(∀ j d x,j<p→listed.getD j false=false→pureAt ops j=some (d,x)→d≠t)→a1.tmps[t]?=a.tmps[t]?) ∧
 ∀ j o d x,j<p→listed.getD j false=false→ops[j]?=some o→pureOf o=some (d,x)→∃ v,(∀ w,(execOp a.eval o).run P w = .ok (.value v) w)∧a1.tmps[d]?=(a.tmps[d]?).map fun _=>v
theorem PendA.put {p:Nat} {listed:Array Bool} {a a1:Act} (h:PendA P ops p listed a a1) (dst:Option Nat) (u:Value) (hd:∀ j d x,j<p→listed.getD j false=false→pureAt ops j=some (d,x)→dst≠some d∧dst≠some x):PendA P ops p listed (a.put dst u) (a1.put dst u):=by
 obtain ⟨h1,h2,h3⟩:=h
 refine ⟨by cases dst <;> exact h1,fun t ht=>?_,fun j o d x hj hl ho hp=>?_⟩
 ·cases dst with
  | none=>exact h2 t ht
  | some e=>rw [put_get,put_get,h2 t ht]
 ·obtain ⟨a1',a2⟩:=hd j d x hj hl (pureAt_of ho hp)
  obtain ⟨v,hv,he⟩:=h3 j o d x hj hl ho hp
  refine ⟨v,fun w=>by rw [exec_pure_put (ops:=ops) hp a dst u a2];exact hv w,?_⟩
  cases dst with
  | none=>exact he
  | some e =>
   have hed:e≠d:=fun h=>a1' (by rw [h])
   rw [put_get,put_get,if_neg hed,if_neg hed,he]
set_option maxHeartbeats 4000000 in
theorem chainF_sound {fr:Fr} (hp:fr.pins=pins) {L:List (Nat × Nat)} {m:Nat} (hok:splitOk ops L m=true) (hpl:∀ k o,m≤k→ops[k]?=some o→plainOp o=true) {K:St→Prop} {Q:Exit→Act→World→Prop} (hQ:∀ a w,Ends fr K a w→Q .normal a w) :
  ∀ (fuel:Nat) (n:Nat) (p:Nat) (listed:Array Bool) (s:St) (a a1:Act) (w:World) (ρ:Pl),n=ops.size-p→m≤p→p≤ops.size→listed.size=ops.size→(∀ j,j<m→lateJ ops m j=false→listed.getD j false=true)→(∀ j,m≤j→j<p→j<ops.size→freeAt ops m j=false→listed.getD j false=true)→(∀ j,p≤j→listed.getD j false=false)→unl listed ops.size≤fuel →
   PendA P ops p listed a a1→Rep fr ρ s a1 w→opsW P pins ops (ops.toList.drop p) s K→wpAny P .any ops Q fuel listed a w:=by
 obtain ⟨hm,hdeps,hpairs,hreach,hchain,hlate,hbehind⟩:=splitOk_at hok
 have gd:∀ (listed:Array Bool) (i:Nat),listed.size=ops.size→i<ops.size→listed.getD i true=listed.getD i false:=by
  intro listed i hs hi
  have:i<listed.size:=by omega
  simp [this]
 have emp:∀ (listed:Array Bool),listed.size=ops.size→Region.ready .any ops listed=[]→∀ j,j<ops.size→listed.getD j false=true:=by
  intro listed hs hr
  have key:∀ n j,j<n→j<ops.size→listed.getD j false=true:=by
   intro n
   induction n with
   | zero=>intro j hj;omega
   | succ n ih =>
    intro j hj hjs
    cases hl:listed.getD j false with
    | true=>rfl
    | false =>
     exfalso
     have ho:ops[j]?=some ops[j]:=Array.getElem?_eq_getElem hjs
     have:j∈Region.ready .any ops listed:=by
      rw [mem_ready]
      refine ⟨by rw [gd listed j hs hjs];exact hl,_,ho,fun e he hb=>?_⟩
      have:=hdeps j _ ho e he hb
      exact ih e.on (by omega) (by omega)
     rw [hr] at this
     cases this
  exact fun j hj=>key (j+1) j (by omega) hj
 have pendB:∀ (listed:Array Bool) (p j:Nat),(∀ j,j<m→lateJ ops m j=false→listed.getD j false=true)→(∀ j,m≤j→j<p→j<ops.size→freeAt ops m j=false→listed.getD j false=true)→j<p→j<ops.size→listed.getD j false=false→pendable ops m j=true:=by
  intro listed p j h1 h2 hj hjs hl
  unfold pendable
  by_cases hjm:j<m
  ·have:lateJ ops m j=true:=by
    cases h:lateJ ops m j with
    | true=>rfl
    | false=>rw [h1 j hjm h] at hl;cases hl
   simp [hjm,this]
  ·have:freeAt ops m j=true:=by
    cases h:freeAt ops m j with
    | true=>rfl
    | false=>rw [h2 j (by omega) hj hjs h] at hl;cases hl
   simp [this]
 have dst_of:∀ j o d x,ops[j]?=some o→pureOf o=some (d,x)→dstAt ops j=some d:=fun j o d x ho hp=>by
  unfold dstAt
  rw [ho]
  exact (pureOf_some hp).2.1
 have apart:∀ j k d x e y,j≠k→j<ops.size→k<ops.size→pendable ops m j=true→pendable ops m k=true→pureAt ops j=some (d,x)→pureAt ops k=some (e,y)→d≠e∧e≠x:=by
  intro j k d x e y hjk hjs hks hj hk hpj hpk
  obtain ⟨oj,hoj,hpj'⟩:=pureAt_some hpj
  obtain ⟨ok,hok',hpk'⟩:=pureAt_some hpk
  have two:∀ j k d x e y oj ok,j<k→j<ops.size→pendable ops m j=true→pendable ops m k=true→ops[j]?=some oj→ops[k]?=some ok→pureOf oj=some (d,x)→pureOf ok=some (e,y)→d≠e∧e≠x∧d≠y:=by
   intro j k d x e y oj ok hlt hjs hj hk hoj hok' hpj' hpk'
   by_cases hkm:k<m
   ·have lj:lateAt ops m j=true:=hlate j (by omega) (by
     unfold pendable at hj
     have:freeAt ops m j=false:=by unfold freeAt;simp;omega
     rw [this] at hj
     simpa using (by simpa using hj:j<m∧lateJ ops m j=true).2)
    have lk:lateAt ops m k=true:=hlate k hkm (by
     unfold pendable at hk
     have:freeAt ops m k=false:=by unfold freeAt;simp;omega
     rw [this] at hk
     simpa using (by simpa using hk:k<m∧lateJ ops m k=true).2)
    obtain ⟨d1,x1,m1,_,a1,a2⟩:=lateAt_at lj
    obtain ⟨e1,y1,m2,_,b1,b2⟩:=lateAt_at lk
    have same:∀ j o d x d1 x1,ops[j]?=some o→pureOf o=some (d,x)→moveAt ops j=some (d1,x1)→d1=d∧x1=x:=by
     intro j o d x d1 x1 ho hp hm
     obtain ⟨o2,ho2,g1,g2,g3⟩:=moveAt_some hm
     rw [ho] at ho2
     cases ho2
     unfold pureOf at hp
     rw [g1,g2,g3] at hp
     cases hp
     exact ⟨rfl,rfl⟩
    obtain ⟨rfl,rfl⟩:=same j oj d x d1 x1 hoj hpj' m1
    obtain ⟨rfl,rfl⟩:=same k ok e y e1 y1 hok' hpk' m2
    exact ⟨fun h=>a1 k (by omega) (by omega) (by rw [dst_of k ok _ _ hok' hpk',h]),fun h=>a2 k (by omega) (by rw [dst_of k ok _ _ hok' hpk',h]),fun h=>b2 j (by omega) (by rw [dst_of j oj _ _ hoj hpj',h])⟩
   ·obtain ⟨d1,x1,o1,ho1,hp1,_,hb⟩:=behindOk_at (hbehind j hjs hj)
    rw [hoj] at ho1
    cases ho1
    rw [hpj'] at hp1
    cases hp1
    obtain ⟨c1,c2,c3⟩:=(hb k ok (by omega) hok').2 hlt
    have hkd:=(pureOf_some hpk').2.1
    have hfk:freeAt ops m k=true:=by
     unfold pendable at hk
     simpa [hkm] using hk
    refine ⟨fun h=>c1 (by rw [hkd,h]),fun h=>c2 (by rw [hkd,h]),fun h=>?_⟩
    rcases c3 with c3 | ⟨_,c3⟩
    ·rw [pure_looks hpk'] at c3
     exact c3 (by simp [h])
    ·rw [hfk] at c3;cases c3
  rcases Nat.lt_or_gt_of_ne hjk with h | h
  ·have:=two j k d x e y oj ok h hjs hj hk hoj hok' hpj' hpk'
   exact ⟨this.1,this.2.1⟩
  ·have:=two k j e y d x ok oj h hks hk hj hok' hoj hpk' hpj'
   exact ⟨fun h=>this.1 h.symm,this.2.2⟩
 have lateStep:∀ (p k:Nat) (listed:Array Bool) (a a1:Act),listed.size=ops.size→(∀ j,j<m→lateJ ops m j=false→listed.getD j false=true)→(∀ j,m≤j→j<p→j<ops.size→freeAt ops m j=false→listed.getD j false=true)→p≤ops.size→k<p→listed.getD k false=false→PendA P ops p listed a a1 →
   ∃ o v,ops[k]?=some o∧o.guard=none∧(∀ w,(execOp a.eval o).run P w = .ok (.value v) w)∧PendA P ops p (listed.setIfInBounds k true) (a.put o.dst v) a1:=by
  intro p k listed a a1 hs hnl hnf hps hkp hkl hpend
  have hks:k<ops.size:=by omega
  have hk:=pendB listed p k hnl hnf hkp hks hkl
  obtain ⟨d,x,o,ho,hpu,hdx,_⟩:=behindOk_at (hbehind k hks hk)
  obtain ⟨h1,h2,h3⟩:=hpend
  obtain ⟨v,hv,he⟩:=h3 k o d x hkp hkl ho hpu
  have hdst:=(pureOf_some hpu).2.1
  refine ⟨o,v,ho,(pureOf_some hpu).1,hv,?_⟩
  rw [hdst]
  have hne:∀ j,j≠k→(listed.setIfInBounds k true).getD j false=listed.getD j false:=fun j hj=>getD_set_ne false (Ne.symm hj)
  have hself:(listed.setIfInBounds k true).getD k false=true:=by simp [show k<listed.size by omega]
  refine ⟨h1,fun t ht=>?_,fun j oj e y hj hlj hoj hpj=>?_⟩
  ·rw [put_get]
   split
   ·rename_i hdt
    subst hdt
    exact he
   ·rename_i hdt
    refine h2 t fun j e y hj hlj hpj=>?_
    by_cases hjk:j=k
    ·subst hjk
     rw [pureAt_of ho hpu] at hpj
     cases hpj
     exact hdt
    ·exact ht j e y hj (by rw [hne j hjk];exact hlj) hpj
  ·have hjk:j≠k:=by
    rintro rfl
    rw [hself] at hlj
    cases hlj
   rw [hne j hjk] at hlj
   obtain ⟨u,hu,hue⟩:=h3 j oj e y hj hlj hoj hpj
   have hjs:j<ops.size:=by omega
   obtain ⟨g1,g2⟩:=apart j k e y d x hjk hjs hks (pendB listed p j hnl hnf hj hjs hlj) hk (pureAt_of hoj hpj) (pureAt_of ho hpu)
   refine ⟨u,fun w=>by rw [exec_pure_put (ops:=ops) hpj a (some d) v (fun h=>g2 (by cases h;rfl))];exact hu w,?_⟩
   rw [put_get,if_neg (Ne.symm g1)]
   exact hue
 have unlt:∀ (listed:Array Bool) (k:Nat),listed.size=ops.size→k<ops.size→listed.getD k false=false→unl (listed.setIfInBounds k true) ops.size<unl listed ops.size:=by
  intro listed k hs hks hk
  have hkl:k<listed.size:=by omega
  refine countP_lt (fun j hj h=>?_) ⟨k,by simpa using hks,by rw [gd listed k hs hks,hk];rfl,by simp [hkl]⟩
  by_cases hik:j=k
  ·subst hik;simp [hkl] at h
  ·rw [getD_set_ne true (Ne.symm hik)] at h;exact h
 have unlpos:∀ (listed:Array Bool) (j:Nat),listed.size=ops.size→j<ops.size→listed.getD j false=false→0<unl listed ops.size:=by
  intro listed j hs hj hl
  unfold unl
  rw [List.countP_pos_iff]
  exact ⟨j,by simpa using hj,by rw [gd listed j hs hj,hl];rfl⟩
 have kept:∀ (p k:Nat) (listed:Array Bool),listed.size=ops.size→(∀ j,j<m→lateJ ops m j=false→listed.getD j false=true)→(∀ j,m≤j→j<p→j<ops.size→freeAt ops m j=false→listed.getD j false=true)→k<ops.size →
   (∀ j,j<m→lateJ ops m j=false→(listed.setIfInBounds k true).getD j false=true)∧(∀ j,m≤j→j<p→j<ops.size→freeAt ops m j=false→(listed.setIfInBounds k true).getD j false=true):=by
  intro p k listed hs h1 h2 hks
  have hkl:k<listed.size:=by omega
  refine ⟨fun j hj hl=>?_,fun j h3 h4 h5 h6=>?_⟩
  ·by_cases hjk:j=k
   ·subst hjk;simp [hkl]
   ·rw [getD_set_ne false (Ne.symm hjk)];exact h1 j hj hl
  ·by_cases hjk:j=k
   ·subst hjk;simp [hkl]
   ·rw [getD_set_ne false (Ne.symm hjk)];exact h2 j h3 h4 h5 h6
 have wait:∀ (listed:Array Bool) (o:Oper) (j:Nat),(∀ e∈o.after,Region.binds .any e=true→listed.getD e.on false=true)→ordered o j=true→listed.getD j false=true:=by
  intro listed o j hdep hj
  unfold ordered at hj
  rw [Array.any_eq_true'] at hj
  obtain ⟨e,he,hb⟩:=hj
  simp only [Bool.and_eq_true,beq_iff_eq] at hb
  rw [← hb.2]
  exact hdep e he hb.1
 intro fuel
 induction fuel using Nat.strongRecOn with
 | ind fuel ih =>
  have late1:∀ (fuel' p k:Nat) (listed:Array Bool) (s:St) (a a1:Act) (w:World) (ρ:Pl),fuel=fuel'+1→m≤p→p≤ops.size→listed.size=ops.size→(∀ j,j<m→lateJ ops m j=false→listed.getD j false=true)→(∀ j,m≤j→j<p→j<ops.size→freeAt ops m j=false→listed.getD j false=true)→(∀ j,p≤j→listed.getD j false=false)→unl listed ops.size≤fuel →
    PendA P ops p listed a a1→Rep fr ρ s a1 w→opsW P pins ops (ops.toList.drop p) s K→k<p→listed.getD k false=false→wpOp P ops Q k (wpAny P .any ops Q fuel' (listed.setIfInBounds k true)) a w:=by
   intro fuel' p k listed s a a1 w ρ hf hmp hps hs hnl hnf hup hu hpend hr hk hkp hkl
   obtain ⟨o,v,ho,hg,hv,hpend'⟩:=lateStep p k listed a a1 hs hnl hnf hps hkp hkl hpend
   obtain ⟨k1,k2⟩:=kept p k listed hs hnl hnf (by omega)
   unfold wpOp
   rw [ho]
   simp only
   rw [if_pos (by simp [Region.wanted,hg])]
   refine .inl ?_
   unfold Oper.wp
   rw [hv w]
   refine ih fuel' (by omega) _ p _ s (a.put o.dst v) a1 w ρ rfl hmp hps (by simpa using hs) k1 k2 (fun j hj=>?_) ?_ hpend' hr hk
   ·rw [getD_set_ne false (by omega)];exact hup j hj
   ·have:=unlt listed k hs (by omega) hkl
    omega
  intro n
  induction n with
  | zero =>
   intro p listed s a a1 w ρ hn hmp hps hs hnl hnf hup hu hpend hr hk
   have hp':p=ops.size:=by omega
   by_cases hall:∀ j,j<ops.size→listed.getD j false=true
   ·have:a1=a:=by
     obtain ⟨h1,h2,_⟩:=hpend
     have he:a1.tmps=a.tmps:=Array.ext_getElem? fun t=>h2 t fun j d x hj hlj=>by rw [hall j (by omega)] at hlj;cases hlj
     show (⟨a1.tmps,a1.defers⟩:Act)=⟨a.tmps,a.defers⟩
     rw [he,h1]
    subst this
    have hnone:Region.ready .any ops listed=[]:=by
     refine List.eq_nil_iff_forall_not_mem.2 fun k hk=>?_
     rw [mem_ready] at hk
     obtain ⟨h1,o,ho,_⟩:=hk
     have hks:k<ops.size:=(Array.getElem?_eq_some_iff.1 ho).1
     rw [gd listed k hs hks,hall k hks] at h1
     cases h1
    have hd:ops.toList.drop p=[]:=List.drop_eq_nil_of_le (by simp;omega)
    rw [hd] at hk
    have hq:Q .normal _ w:=hQ _ w ⟨s,ρ,hk,hr⟩
    cases fuel with
    | zero=>exact ⟨hnone,hq⟩
    | succ fuel=>exact ⟨fun _=>hq,fun k hk=>by rw [hnone] at hk;cases hk⟩
   ·obtain ⟨j,hj⟩:=Classical.not_forall.1 hall
    obtain ⟨hj1,hj2⟩:=Classical.not_imp.1 hj
    replace hj2:listed.getD j false=false:=by simpa using hj2
    have:=unlpos listed j hs hj1 hj2
    cases fuel with
    | zero=>omega
    | succ fuel =>
     refine ⟨fun hn=>?_,fun k hkr=>?_⟩
     ·rw [emp listed hs hn j hj1] at hj2;cases hj2
     ·rw [mem_ready] at hkr
      obtain ⟨h1,o,ho,_⟩:=hkr
      have hks:k<ops.size:=(Array.getElem?_eq_some_iff.1 ho).1
      rw [gd listed k hs hks] at h1
      exact late1 fuel p k listed s a a1 w ρ rfl hmp hps hs hnl hnf hup hu hpend hr hk (by omega) h1
  | succ n ihn =>
   intro p listed s a a1 w ρ hn hmp hps hs hnl hnf hup hu hpend hr hk
   have hpz:p<ops.size:=by omega
   have ho:ops[p]?=some ops[p]:=Array.getElem?_eq_getElem hpz
   obtain ⟨hgd,hns⟩:=plain_nosel (hpl p _ hmp ho)
   have hdr:ops.toList.drop p=ops[p]::ops.toList.drop (p+1):=by
    rw [List.drop_eq_getElem_cons (by simpa using hpz)]
    simp
   rw [hdr] at hk
   unfold opsW at hk
   rw [hgd] at hk
   have hw1:=opW_sound (Q:=fun _ _ _=>False) hp hr hk
   generalize hoo:ops[p]=o at *
   by_cases hf:freeAt ops m p=true
   ·
    obtain ⟨d,x,o',ho',hpu,hdx,_⟩:=behindOk_at (hbehind p hpz (by unfold pendable;simp [hf]))
    rw [ho] at ho'
    cases ho'
    obtain ⟨v,hv,hN⟩:=pure_run hpu hw1
    obtain ⟨s2,ρ2,hk2,hr2⟩:=hN
    have hdst:=(pureOf_some hpu).2.1
    have nlook:∀ j e y,j<p→listed.getD j false=false→pureAt ops j=some (e,y)→e∉o.looksAt ops∧o.dst≠some e:=by
     intro j e y hj hl hpj
     obtain ⟨oj,hoj,hpj'⟩:=pureAt_some hpj
     obtain ⟨e1,y1,o1,ho1,hp1,_,hb⟩:=behindOk_at (hbehind j (by omega) (pendB listed p j hnl hnf hj (by omega) hl))
     rw [hoj] at ho1
     cases ho1
     rw [hpj'] at hp1
     cases hp1
     obtain ⟨c1,c2,c3⟩:=(hb p o hmp ho).2 hj
     refine ⟨?_,c1⟩
     rcases c3 with c3 | ⟨_,c3⟩
     ·exact c3
     ·rw [hf] at c3;cases c3
    have hex:execOp a1.eval o=execOp a.eval o:=execOp_congr o hns fun z hz=>by
     have hz':z∈o.op.operands.toList:=by simpa using hz
     cases z with
     | tmp t =>
      rw [eval_tmp,eval_tmp,hpend.2.1 t fun j e y hj hl hpj het=>(nlook j e y hj hl hpj).1 (by
       subst het
       exact List.mem_append_left _ (List.mem_filterMap.2 ⟨_,hz',rfl⟩))]
     | _=>rfl
    refine ihn (p+1) listed s2 a (a1.put o.dst v) w ρ2 (by omega) (by omega) (by omega) hs hnl (fun j h1 h2 h3 h4=>?_) (fun j hj=>hup j (by omega)) hu ?_ hr2 hk2
    ·by_cases hjp:j=p
     ·subst hjp;rw [hf] at h4;cases h4
     ·exact hnf j h1 (by omega) h3 h4
    ·rw [hdst]
     obtain ⟨q1,q2,q3⟩:=hpend
     refine ⟨q1,fun t ht=>?_,fun j oj e y hj hl hoj hpj=>?_⟩
     ·have hdt:d≠t:=ht p d x (by omega) (hup p (Nat.le_refl _)) (pureAt_of ho hpu)
      rw [put_get,if_neg hdt]
      exact q2 t fun j e y hj hl hpj=>ht j e y (by omega) hl hpj
     ·by_cases hjp:j=p
      ·subst hjp
       rw [ho] at hoj
       cases hoj
       rw [hpu] at hpj
       cases hpj
       refine ⟨v,fun w=>by rw [← hex];exact hv w,?_⟩
       rw [put_get,if_pos rfl,q2 d fun j e y hj hl hpj hed=>(nlook j e y hj hl hpj).2 (by rw [hdst,hed])]
      ·obtain ⟨u,hu1,hu2⟩:=q3 j oj e y (by omega) hl hoj hpj
       refine ⟨u,hu1,?_⟩
       rw [put_get,if_neg (fun hde=>(nlook j e y (by omega) hl (pureAt_of hoj hpj)).2 (by rw [hdst,hde]))]
       exact hu2
   ·replace hf:freeAt ops m p=false:=by simpa using hf
    have:=unlpos listed p hs hpz (hup p (Nat.le_refl _))
    cases fuel with
    | zero=>omega
    | succ fuel =>
     refine ⟨fun hn=>?_,fun k hkr=>?_⟩
     ·have:=emp listed hs hn p hpz
      rw [hup p (Nat.le_refl _)] at this
      cases this
     ·rw [mem_ready] at hkr
      obtain ⟨h1,ok,hok',hdep⟩:=hkr
      have hks:k<ops.size:=(Array.getElem?_eq_some_iff.1 hok').1
      rw [gd listed k hs hks] at h1
      rcases Nat.lt_trichotomy k p with hkp | hkp | hkp
      ·exact late1 fuel p k listed s a a1 w ρ rfl hmp hps hs hnl hnf hup hu hpend hr (by rw [hdr];unfold opsW;rw [hgd];exact hk) hkp h1
      ·subst hkp
       rw [ho] at hok'
       cases hok'
       have nlook:∀ j e y,j<k→listed.getD j false=false→pureAt ops j=some (e,y)→e∉o.looksAt ops∧o.dst≠some e∧o.dst≠some y:=by
        intro j e y hj hl hpj
        obtain ⟨oj,hoj,hpj'⟩:=pureAt_some hpj
        obtain ⟨e1,y1,o1,ho1,hp1,_,hb⟩:=behindOk_at (hbehind j (by omega) (pendB listed k j hnl hnf hj (by omega) hl))
        rw [hoj] at ho1
        cases ho1
        rw [hpj'] at hp1
        cases hp1
        obtain ⟨c1,c2,c3⟩:=(hb k o hmp ho).2 hj
        refine ⟨?_,c1,c2⟩
        rcases c3 with c3 | ⟨c3,_⟩
        ·exact c3
        ·rw [wait listed o j hdep c3] at hl;cases hl
       have hex:execOp a1.eval o=execOp a.eval o:=execOp_congr o hns fun z hz=>by
        have hz':z∈o.op.operands.toList:=by simpa using hz
        cases z with
        | tmp t =>
         rw [eval_tmp,eval_tmp,hpend.2.1 t fun j e y hj hl hpj het=>(nlook j e y hj hl hpj).1 (by
          subst het
          exact List.mem_append_left _ (List.mem_filterMap.2 ⟨_,hz',rfl⟩))]
        | _=>rfl
       obtain ⟨k1,k2⟩:=kept k k listed hs hnl hnf hks
       have hkl:k<listed.size:=by omega
       have go:∀ (u:Value) (s':St) (w':World) (ρ':Pl),opsW P pins ops (ops.toList.drop (k+1)) s' K→Rep fr ρ' s' (a1.put o.dst u) w'→wpAny P .any ops Q fuel (listed.setIfInBounds k true) (a.put o.dst u) w':=by
        intro u s' w' ρ' hk' hr'
        refine ih fuel (by omega) _ (k+1) _ s' _ _ w' ρ' rfl (by omega) (by omega) (by simpa using hs) k1 (fun j h1 h2 h3 h4=>?_) (fun j hj=>?_) ?_ ?_ hr' hk'
        ·by_cases hjk:j=k
         ·subst hjk;simp [hkl]
         ·exact k2 j h1 (by omega) h3 h4
        ·rw [getD_set_ne false (by omega)];exact hup j (by omega)
        ·have:=unlt listed k hs hks h1
         omega
        ·have hq:=hpend.put o.dst u fun j e y hj hl hpj=>(nlook j e y hj hl hpj).2
         have hself:(listed.setIfInBounds k true).getD k false=true:=by simp [hkl]
         refine ⟨hq.1,fun t ht=>hq.2.1 t fun j e y hj hl hpj=>ht j e y (by omega) (by rw [getD_set_ne false (by omega)];exact hl) hpj,fun j oj e y hj hl hoj hpj=>?_⟩
         have hjk:j≠k:=by
          rintro rfl
          rw [hself] at hl
          cases hl
         rw [getD_set_ne false (Ne.symm hjk)] at hl
         exact hq.2.2 j oj e y (by omega) hl hoj hpj
       unfold wpOp
       rw [ho]
       simp only
       rw [if_pos (by simp [Region.wanted,hgd])]
       refine .inl ?_
       unfold Oper.wp at hw1 ⊢
       rw [hex] at hw1
       have hdef:a1.defers=a.defers:=hpend.1
       generalize (execOp a.eval o).run P w=r at hw1 ⊢
       cases r with
       | ok nx w' =>
        cases nx <;> simp only [Oper.upon] at hw1 ⊢
        case value v=>obtain ⟨s2,ρ2,h2,h3⟩:=hw1;exact go v s2 w' ρ2 h2 h3
        case skip=>obtain ⟨s2,ρ2,h2,h3⟩:=hw1;exact go undef s2 w' ρ2 h2 h3
        case defer d =>
         obtain ⟨s2,ρ2,h2,h3⟩:=hw1
         have:=h3.defers
         cases hdd:o.dst <;> rw [hdd] at this <;> simp [Act.put] at this
        case enter f args =>
         refine Calls.mono hw1 fun e w'' he=>?_
         cases e with
         | returned v=>obtain ⟨s2,ρ2,h2,h3⟩:=he;exact go v s2 w'' ρ2 h2 h3
         | panicked c=>exact he.elim
         | outgrown =>
          obtain ⟨_,_,he⟩:=he
          exact he.elim
        case row row args=>exact Rows.mono hw1 fun v w'' ⟨s2,ρ2,h2,h3⟩=>go v s2 w'' ρ2 h2 h3
       | halt x w'=>cases x <;> simp only [Oper.upon] at hw1 ⊢
      ·exfalso
       have h2:=wait listed ok _ hdep (hchain k ok (by omega) hok')
       rw [hup _ (lastNF_ge hmp hf k hkp)] at h2
       cases h2
def Late (ops:Array Oper) (m:Nat) (listed:Array Bool) (s s':St):Prop :=
 s'.hp=s.hp∧(∀ t,(∀ j d x,j<m→listed.getD j false=false→moveAt ops j=some (d,x)→d≠t)→s'.env[t]?=s.env[t]?) ∧
 ∀ j d x,j<m→listed.getD j false=false→moveAt ops j=some (d,x)→s'.env[d]?=(s.env[d]?).map fun _=>ev s.env (.tmp x)
theorem late_act {m:Nat} {listed:Array Bool} (hu:∀ j j' d x x',j<m→j'<m→listed.getD j false=false→listed.getD j' false=false→moveAt ops j=some (d,x)→moveAt ops j'=some (d,x')→x=x') (a:Act):∃ a',LateA ops m listed a a':=by
 classical
 let B:Nat→Nat→Prop:=fun t x=>∃ j,j<m∧listed.getD j false=false∧moveAt ops j=some (t,x)
 refine ⟨⟨a.tmps.mapIdx fun t v=>if h:∃ x,B t x then a.eval (.tmp h.choose) else v,a.defers⟩,rfl,fun t ht=>?_,fun j d x hj hl hm=>?_⟩
 ·have:¬ ∃ x,B t x:=fun ⟨x,j,h1,h2,h3⟩=>ht j t x h1 h2 h3 rfl
  simp only [Array.getElem?_mapIdx,dif_neg this]
  cases a.tmps[t]? <;> rfl
 ·have h:∃ x,B d x:=⟨x,j,hj,hl,hm⟩
  have hx:h.choose=x:=by
   obtain ⟨j',h1,h2,h3⟩:=h.choose_spec
   exact hu j' j d _ x h1 hj h2 hl h3 hm
  simp only [Array.getElem?_mapIdx,dif_pos h,hx]
theorem late_rep {fr:Fr} {ρ:Pl} {m:Nat} {listed:Array Bool} {s s':St} {a a':Act} {w:World} (hr:Rep fr ρ s a w) (hs:Late ops m listed s s') (ha:LateA ops m listed a a'):Rep fr ρ s' a' w:=by
 classical
 obtain ⟨h1,h2,h3⟩:=hs
 obtain ⟨g1,g2,g3⟩:=ha
 have key:∀ t,(∃ j d x,j<m∧listed.getD j false=false∧moveAt ops j=some (d,x)∧d=t)∨∀ j d x,j<m→listed.getD j false=false→moveAt ops j=some (d,x)→d≠t:=fun t=>by
  by_cases h:∃ j d x,j<m∧listed.getD j false=false∧moveAt ops j=some (d,x)∧d=t
  ·exact .inl h
  ·exact .inr fun j d x hj hl hm hd=>h ⟨j,d,x,hj,hl,hm,hd⟩
 have el:∀ t,(s.env[t]?).isSome=(a.tmps[t]?).isSome:=fun t=>by
  have:=hr.env.length
  simp only [Array.length_toList] at this
  by_cases ht:t<s.env.length
  ·rw [List.getElem?_eq_getElem ht,Array.getElem?_eq_getElem (by omega)];rfl
  ·rw [List.getElem?_eq_none (by omega),Array.getElem?_eq_none (by omega)];rfl
 have el':∀ t,(s'.env[t]?).isSome=(a'.tmps[t]?).isSome:=fun t=>by
  rcases key t with ⟨j,d,x,hj,hl,hm,rfl⟩ | h
  ·rw [h3 j d x hj hl hm,g3 j d x hj hl hm];simpa using el d
  ·rw [h2 t h,g2 t h];exact el t
 refine { hr with defers:=g1.trans hr.defers,heap:=by rw [h1];exact hr.heap,env:=Rps.mk ?_ fun t x v hx hv=>?_ }
 ·rw [Array.length_toList]
  rcases Nat.lt_trichotomy s'.env.length a'.tmps.size with h | h | h
  ·have:=el' s'.env.length
   rw [List.getElem?_eq_none (Nat.le_refl _),Array.getElem?_eq_getElem h] at this
   cases this
  ·exact h.symm
  ·have:=el' a'.tmps.size
   rw [List.getElem?_eq_getElem h,Array.getElem?_eq_none (Nat.le_refl _)] at this
   cases this
 ·rw [Array.getElem?_toList] at hv
  rcases key t with ⟨j,d,y,hj,hl,hm,rfl⟩ | h
  ·rw [h3 j d y hj hl hm] at hx
   rw [g3 j d y hj hl hm] at hv
   obtain ⟨_,_,rfl⟩:=Option.map_eq_some_iff.1 hx
   obtain ⟨_,_,rfl⟩:=Option.map_eq_some_iff.1 hv
   exact ev_sound hr.env _
  ·rw [h2 t h] at hx
   rw [g2 t h] at hv
   obtain ⟨v',hv',hq⟩:=hr.env.get hx
   rw [Array.getElem?_toList,hv] at hv'
   cases hv'
   exact hq
theorem late_start {L:List (Nat × Nat)} {fs:List Eff} {s0:St} {m:Nat} (hok:splitOk ops L m=true) (hg:GoodM P pins ops L m fs s0) {listed:Array Bool} (hnl:∀ j,j<m→lateJ ops m j=false→listed.getD j false=true) :
  Late ops m listed (Dst (fun i=>listed.getD i false) 0 fs s0) (Dst (fun _=>true) 0 fs s0):=by
 obtain ⟨hm,hdeps,hpairs,hreach,hchain,hlate,hbehind⟩:=splitOk_at hok
 have lateL:∀ j,j<m→listed.getD j false=false→lateAt ops m j=true:=fun j hj hl=>hlate j hj (by
  cases h:lateJ ops m j with
  | true=>rfl
  | false=>rw [hnl j hj h] at hl;cases hl)
 have eff:∀ j d x,j<m→moveAt ops j=some (d,x)→∃ f,fs[j]?=some f∧f=⟨some d,ev (Dst (fun i=>decide (i<j)) 0 fs s0).env (.tmp x),none,none⟩:=by
  intro j d x hj hmv
  obtain ⟨o,ho,h1,h2,h3⟩:=moveAt_some hmv
  obtain ⟨f,hf⟩:∃ f,fs[j]?=some f:=⟨_,List.getElem?_eq_getElem (by rw [hg.len];exact hj)⟩
  refine ⟨f,hf,?_⟩
  rcases (hg.does j f o hf ho).2.2.2 with ⟨_,_,h⟩ | ⟨h,_⟩
  ·rw [h _ h2,h3]
  ·simp [wantB,h1] at h
 have dsts:∀ j g,fs[j]?=some g→j<m∧dstAt ops j=g.dst:=by
  intro j g hgj
  have hjm:j<m:=by have:=(List.getElem?_eq_some_iff.1 hgj).1;rw [hg.len] at this;exact this
  have ho:ops[j]?=some ops[j]:=Array.getElem?_eq_getElem (by omega)
  refine ⟨hjm,?_⟩
  unfold dstAt
  rw [ho]
  exact (hg.does j g _ hgj ho).1.symm
 refine ⟨?_,fun t ht=>?_,fun j d x hj hl hmv=>?_⟩
 ·refine List.ext_getElem? fun i=>Dst_hp fs 0 s0 s0 rfl fun j g hgj hw=>?_
  simp only [Nat.zero_add]
  cases hl:listed.getD j false with
  | true=>rfl
  | false =>
   have hjm:=(dsts j g hgj).1
   obtain ⟨d,x,hmv,_⟩:=lateAt_at (lateL j hjm hl)
   obtain ⟨f,hf,he⟩:=eff j d x hjm hmv
   rw [hgj] at hf
   cases hf
   rw [he] at hw
   cases hw
 ·refine Dst_env fs 0 s0 s0 rfl fun j g hgj hd=>?_
  simp only [Nat.zero_add]
  cases hl:listed.getD j false with
  | true=>rfl
  | false =>
   have hjm:=(dsts j g hgj).1
   obtain ⟨d,x,hmv,_⟩:=lateAt_at (lateL j hjm hl)
   obtain ⟨f,hf,he⟩:=eff j d x hjm hmv
   rw [hgj] at hf
   cases hf
   rw [he] at hd
   cases hd
   exact absurd rfl (ht j _ _ hjm hl hmv)
 ·obtain ⟨d',x',hmv',hne,hdk,hxk⟩:=lateAt_at (lateL j hj hl)
  rw [hmv] at hmv'
  cases hmv'
  obtain ⟨f,hf,he⟩:=eff j d x hj hmv
  have hins:Dst (fun _=>true) 0 fs s0=f.app (Dst (fun i=>!(i == j)) 0 fs s0):=by
   refine Dst_insert fs j 0 s0 hf (by simp) rfl (fun i hi=>by simp [hi]) fun i g hi hgi _=>⟨fun e hfe hge=>?_,fun i hi=>by rw [he] at hi;cases hi⟩
   rw [he] at hfe
   cases hfe
   have:=dsts i g hgi
   exact hdk i (by omega) (by omega) (by rw [this.2,hge])
  have e1:(Dst (fun i=>!(i == j)) 0 fs s0).env[d]?=(Dst (fun i=>listed.getD i false) 0 fs s0).env[d]?:=by
   refine Dst_env fs 0 s0 s0 rfl fun i g hgi hd=>?_
   simp only [Nat.zero_add]
   have:=dsts i g hgi
   by_cases hij:i=j
   ·subst hij;rw [hl];simp
   ·exact absurd (this.2.trans hd) (hdk i (by omega) hij)
  have e2:∀ S S':Nat→Bool,(Dst S 0 fs s0).env[x]?=(Dst S' 0 fs s0).env[x]?:=fun S S'=>Dst_env fs 0 s0 s0 rfl fun i g hgi hd=>by
   have:=dsts i g hgi
   exact absurd (this.2.trans hd) (hxk i (by omega))
  rw [hins,he]
  show ((Dst (fun i=>!(i == j)) 0 fs s0).env.set d _)[d]?=_
  rw [set_get,if_pos rfl,e1]
  simp only [ev,List.getD_eq_getElem?_getD]
  rw [e2]
theorem W_regionS (hm:P.follows .mixedOrders=true) {i:Nat} {Q:Exit→St→Prop} {s:St} (m:Nat) (L:List (Nat × Nat)) (hok:splitOk ops L m=true) (h:regV P ops L (ops.toList.take m) s [] fun s'=>opsW P pins ops (ops.toList.drop m) s' (Q .normal)):W P pins (.region i ops true) Q s:=by
 intro fr ρ a w hp hr
 obtain ⟨fs,h1,h2,h3,h4⟩:=regV_steps (pins:=pins) _ _ _ h
 have hms:=(splitOk_at hok).1
 have hlen:fs.length=m:=by
  rw [h1,List.length_take,Array.length_toList];omega
 have hg:GoodM P pins ops L m fs s:=by
  refine ⟨hlen,fun k f o hk ho=>h2 k f o hk ?_,fun j k f g hj hf hg=>?_⟩
  ·have hkm:k<m:=by have:=(List.getElem?_eq_some_iff.1 hk).1;omega
   rw [List.getElem?_take,if_pos hkm]
   simpa using ho
  ·have:=h3 (j,k) hj
   simp only [List.nil_append,List.getElem?_map,hf,hg,Option.map_some] at this
   exact this
 have hlate:=(splitOk_at hok).2.2.2.2.2.1
 have hbehind:=(splitOk_at hok).2.2.2.2.2.2
 refine wp_region_any hm (anyM_sound (fr:=fr) hp hok hg (fun fuel listed a' w' ρ' hs hnl hup hu hr'=>?_) ops.size _ a _ ρ (by simp) ?_ ?_ ?_ ?_)
 ·by_cases hany:∃ j,j<ops.size∧pendable ops m j=true
  ·obtain ⟨j0,hj0,hp0⟩:=hany
   obtain ⟨_,_,_,_,_,_,hb0⟩:=behindOk_at (hbehind j0 hj0 hp0)
   have lateL:∀ j,j<m→listed.getD j false=false→lateAt ops m j=true:=fun j hj hl=>hlate j hj (by
    cases h:lateJ ops m j with
    | true=>rfl
    | false=>rw [hnl j hj h] at hl;cases hl)
   have hst:=late_start hok hg hnl
   obtain ⟨a1,ha1⟩:=late_act (ops:=ops) (m:=m) (listed:=listed) (fun j j' d x x' hj hj' hl hl' hmv hmv'=>by
    obtain ⟨d1,x1,hm1,_,hd1,_⟩:=lateAt_at (lateL j hj hl)
    rw [hmv] at hm1
    cases hm1
    by_cases hjj:j'=j
    ·subst hjj
     rw [hmv] at hmv'
     cases hmv'
     rfl
    ·exfalso
     obtain ⟨o2,ho2,_,_,hdst2⟩:=moveAt_some hmv'
     exact hd1 j' (by omega) hjj (by unfold dstAt;rw [ho2];exact hdst2)) a'
   have hr1:=late_rep hr' hst ha1
   refine chainF_sound hp hok (fun k o hk ho=>(hb0 k o hk ho).1) (fun a w he=>he) fuel _ m listed _ a' a1 w' ρ' rfl (Nat.le_refl _) (by omega) hs hnl (fun j h1 h2 _ _=>by omega) hup hu ?_ hr1 h4
   obtain ⟨g1,g2,g3⟩:=ha1
   have conv:∀ j d x,j<m→listed.getD j false=false→pureAt ops j=some (d,x)→moveAt ops j=some (d,x):=fun j d x hj hl hpj=>by
    obtain ⟨d1,x1,hm1,_⟩:=lateAt_at (lateL j hj hl)
    obtain ⟨o,ho,c1,c2,c3⟩:=moveAt_some hm1
    have:pureAt ops j=some (d1,x1):=pureAt_of ho (by unfold pureOf;rw [c1,c2,c3])
    rw [hpj] at this
    cases this
    exact hm1
   refine ⟨g1,fun t ht=>g2 t fun j d x hj hl hm'=>?_,fun j o d x hj hl ho hpj=>?_⟩
   ·obtain ⟨o,ho,c1,c2,c3⟩:=moveAt_some hm'
    exact ht j d x hj hl (pureAt_of ho (by unfold pureOf;rw [c1,c2,c3]))
   ·have hm':=conv j d x hj hl (pureAt_of ho hpj)
    obtain ⟨o2,ho2,c1,c2,c3⟩:=moveAt_some hm'
    rw [ho] at ho2
    cases ho2
    exact ⟨_,fun w=>by unfold execOp;simp only [c2];rfl,g3 j d x hj hl hm'⟩
  ·have hnp:∀ j,j<ops.size→pendable ops m j=false:=fun j hj=>by
    cases h:pendable ops m j with
    | false=>rfl
    | true=>exact absurd ⟨j,hj,h⟩ hany
   have hnf:∀ k,freeAt ops m k=false:=fun k=>by
    by_cases hk:k<ops.size
    ·have:=hnp k hk
     unfold pendable at this
     rw [Bool.or_eq_false_iff] at this
     exact this.2
    ·unfold freeAt
     rw [Array.getElem?_eq_none (by omega)]
     simp
   have hall:∀ j,j<m→listed.getD j false=true:=fun j hj=>hnl j hj (by
    have:=hnp j (by omega)
    unfold pendable at this
    rw [Bool.or_eq_false_iff] at this
    simpa [hj] using this.1)
   have hD:Dst (fun i=>listed.getD i false) 0 fs s=Dst (fun _=>true) 0 fs s:=Dst_congr _ _ _ fun j hj=>by
    rw [hg.len] at hj
    simp only [Nat.zero_add]
    exact hall j hj
   rw [hD] at hr'
   refine chain_sound hp hok hnf (fun a w he=>he) _ m (Nat.le_refl _) rfl fuel listed _ a' w' ρ' hs (fun j _=>?_) hu hr' h4
   by_cases hj:j<m
   ·rw [hall j hj];simp [hj]
   ·rw [hup j (by omega)];simp;omega
 ·intro k o ho hl
  simp only [Array.getD_eq_getD_getElem?,Array.getElem?_replicate] at hl
  split at hl <;> simp at hl
 ·intro j _
  simp only [Array.getD_eq_getD_getElem?,Array.getElem?_replicate]
  split <;> rfl
 ·unfold unl
  refine Nat.le_trans List.countP_le_length (by simp)
 ·have:Dst (fun i=>(Array.replicate ops.size false).getD i false) 0 fs s=s:=by
   rw [Dst_congr (S':=fun _=>false) _ _ _ (fun j _=>by
    simp only [Array.getD_eq_getD_getElem?,Array.getElem?_replicate]
    split <;> rfl)]
   have:∀ (l:List Eff) (k:Nat),Dst (fun _=>false) k l s=s:=by
    intro l
    induction l with
    | nil=>intro k;rfl
    | cons g l ih=>intro k;unfold Dst;simp [ih]
   exact this _ _
  rw [this]
  exact hr.heapEq rfl rfl rfl rfl
def thenO (P:Program) (pins:List Nat) (ops:Array Oper) (rest:List Oper) (K:St→Prop):St→Prop:=fun s'=>opsW P pins ops rest s' K
theorem thenO_ap {rest:List Oper} {K:St→Prop} {s:St}:thenO P pins ops rest K s=opsW P pins ops rest s K:=id rfl
theorem W_seqS (hm:P.follows .mixedOrders=true) {i:Nat} {Q:Exit→St→Prop} {y:Code} {s:St} (m:Nat) (L:List (Nat × Nat)) (hok:splitOk ops L m=true) (h:∀ K:St→Prop,(∀ s,W P pins y Q s→K s)→regV P ops L (ops.toList.take m) s [] (thenO P pins ops (ops.toList.drop m) K)):W P pins (.seq (.region i ops true) y) Q s :=
 W_seq (W_regionS hm m L hok (h (W P pins y Q) fun _ h=>h))
theorem W_regS (hm:P.follows .mixedOrders=true) {i:Nat} {Q:Exit→St→Prop} {s:St} (m:Nat) (L:List (Nat × Nat)) (hok:splitOk ops L m=true) (h:∀ K:St→Prop,(∀ s,Q .normal s→K s)→regV P ops L (ops.toList.take m) s [] (thenO P pins ops (ops.toList.drop m) K)):W P pins (.region i ops true) Q s :=
 W_regionS hm m L hok (h (Q .normal) fun _ h=>h)
end
section
variable {P:Program} {pins:List Nat} {ops:Array Oper}
end
theorem Le_nilO {pins:List Nat} {e:List AV} {hp:List Ob} (i r c d:Nat) (T:TypeId) (k:Nat) (pf:Bool) {T0:TypeId} {k0:Nat} {rows:List (List AV)} {row:List AV} (hi:hp[i]?=some (.arr T0 k0 false rows)) (hrow:rows[r]?=some row) (hc:row[c]?=some .nils) (hd:hp[d]?=some .dead) :
  Le pins ⟨e,hp⟩ ⟨e,(hp.set d (.arr T k pf [])).set i (.arr T0 k0 false (rows.set r (row.set c (.sref d 0 0))))⟩:=by
 intro fr ρ a w hpins hr
 have hr':=hr.nilObj (d:=d) hd T k pf
 have hid:i≠d:=fun h=>by rw [h,hd] at hi;cases hi
 have hil:i<hp.length:=(List.getElem?_eq_some_iff.1 hi).1
 refine ⟨_,{ hr' with heap:=fun j=>?_ }⟩
 by_cases hj:j=i
 ·subst hj
  have h0:=hr'.heap j
  rw [show (St.mk e (hp.set d (.arr T k pf []))).hp.getD j .dead = .arr T0 k0 false rows by
   simp only [List.getD_eq_getElem?_getD]
   rw [List.getElem?_set_ne (Ne.symm hid),hi];rfl] at h0
  have hg:(St.mk e ((hp.set d (.arr T k pf [])).set j (.arr T0 k0 false (rows.set r (row.set c (.sref d 0 0)))))).hp.getD j .dead = .arr T0 k0 false (rows.set r (row.set c (.sref d 0 0))):=by
   simp [List.getD_eq_getElem?_getD,hil]
  rw [hg]
  match hp':(ρ.put d (some .nil)) j,h0 with
  | none,h0=>exact h0.elim
  | some .nil,h0 =>
   have:rows=[]:=h0
   rw [this] at hrow;cases hrow
  | some (.mapb b),h0=>exact h0.elim
  | some (.blk b s cap len),h0 =>
   obtain ⟨h1,h2,vss,rest,h3,h4,h5,h6,h7,h8⟩:=h0
   obtain ⟨vs,hv1,hv2⟩:=h4.get hrow
   obtain ⟨v,hv3,hv4⟩:=hv2.get hc
   simp only [Rp] at hv4
   have hsr:Rp w (Av fr.F (ρ.put d (some .nil))) (ρ.put d (some .nil)) (.sref d 0 0) v:=by
    simp only [Rp];exact .inl ⟨Pl.put_same _ _ _,by simp,by simp,hv4⟩
   have e1:vs.set c v=vs:=by
    obtain ⟨hlt,he⟩:=List.getElem?_eq_some_iff.1 hv3
    rw [← he,List.set_getElem_self]
   have e2:vss.set r vs=vss:=by
    obtain ⟨hlt,he⟩:=List.getElem?_eq_some_iff.1 hv1
    rw [← he,List.set_getElem_self]
   have h9:=hv2.set c hsr
   rw [e1] at h9
   have h10:=h4.set r h9
   rw [e2] at h10
   refine ⟨h1,by simpa using h2,vss,rest,h3,h10,?_,h6,by simpa using h7,h8⟩
   intro x hx
   rcases List.mem_or_eq_of_mem_set hx with hx | rfl
   ·exact h5 x hx
   ·rw [List.length_set];exact h5 row (List.mem_of_getElem? hrow)
 ·have h0:=hr'.heap j
  have hg:(St.mk e ((hp.set d (.arr T k pf [])).set i (.arr T0 k0 false (rows.set r (row.set c (.sref d 0 0)))))).hp.getD j .dead=(St.mk e (hp.set d (.arr T k pf []))).hp.getD j .dead:=by
   simp only [List.getD_eq_getElem?_getD]
   rw [List.getElem?_set_ne (Ne.symm hj)]
  rw [hg]
  exact h0
def Mut2 (P:Program) (g:FuncId) (T:TypeId) (k:Nat) (rows:List (List AV)) (off n:Nat) (rest:List AV) (R:AV→List (List AV)→Prop):Prop :=
 ∃ fn c,P.funcs[g]?=some fn∧fn.body=some c∧0<fn.ntmps∧W P [0] c (mutQ2 P fn.results.toList T k R) ⟨.sref 0 off n::AV.datas rest++List.replicate (fn.ntmps-(rest.length+1)) .und,(List.replicate fn.ntmps .dead).set 0 (.arr T k true rows)⟩
theorem AV.datas_len:∀ l:List AV,(AV.datas l).length=l.length
 | []=>rfl
 | x::l=>by simp only [AV.datas,List.length_cons,AV.datas_len l]
theorem RpR.datas {w:World} {A:Nat→Prop} {ρ:Pl} {l:List (List AV)} {vss:List (List Value)} (h:RpR w A ρ l vss):RpR w A ρ (l.map AV.datas) vss:=by
 refine RpR.mk (by rw [List.length_map];exact h.length) fun i x v hx hv=>?_
 rw [List.getElem?_map] at hx
 cases hl:l[i]? with
 | none=>rw [hl] at hx;cases hx
 | some y =>
  rw [hl] at hx
  cases hx
  obtain ⟨u,hu,hr⟩:=h.get hl
  rw [hv] at hu
  cases hu
  exact Rps.data y hr
theorem Le_datas {pins:List Nat} {e:List AV} {hp:List Ob} (i:Nat) {T:TypeId} {k:Nat} {pf:Bool} {rows:List (List AV)} (hi:hp[i]?=some (.arr T k pf rows)):Le pins ⟨e,hp⟩ ⟨e,hp.set i (.arr T k pf (rows.map AV.datas))⟩:=by
 intro fr ρ a w hpins hr
 have hil:i<hp.length:=(List.getElem?_eq_some_iff.1 hi).1
 refine ⟨ρ,{ hr with heap:=fun j=>?_ }⟩
 by_cases hj:j=i
 ·subst hj
  have h0:=hr.heap j
  rw [show (St.mk e hp).hp.getD j .dead = .arr T k pf rows by simp [List.getD_eq_getElem?_getD,hi]] at h0
  have hg:(St.mk e (hp.set j (.arr T k pf (rows.map AV.datas)))).hp.getD j .dead = .arr T k pf (rows.map AV.datas):=by simp [List.getD_eq_getElem?_getD,hil]
  rw [hg]
  match hp':ρ j,h0 with
  | none,h0=>exact h0.elim
  | some .nil,h0 =>
   have:rows=[]:=h0
   subst this
   exact rfl
  | some (.mapb b),h0=>exact h0.elim
  | some (.blk b s cap len),h0 =>
   obtain ⟨h1,h2,vss,rest,h3,h4,h5,h6,h7,h8⟩:=h0
   refine ⟨h1,by simpa using h2,vss,rest,h3,h4.datas,?_,h6,by simpa using h7,h8⟩
   intro x hx
   obtain ⟨y,hy,rfl⟩:=List.mem_map.1 hx
   rw [AV.datas_len]
   exact h5 y hy
 ·have h0:=hr.heap j
  have hg:(St.mk e (hp.set i (.arr T k pf (rows.map AV.datas)))).hp.getD j .dead=(St.mk e hp).hp.getD j .dead:=by
   simp only [List.getD_eq_getElem?_getD]
   rw [List.getElem?_set_ne (Ne.symm hj)]
  rw [hg]
  exact h0
end Go.Proofs.YtjmkfbhecgkbmaaGreat.Vm
