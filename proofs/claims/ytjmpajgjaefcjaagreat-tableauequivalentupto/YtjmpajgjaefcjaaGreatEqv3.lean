/-
  Part 3 of 9 of a proof.
-/
import Derived.Test.YtjmpajgjaefcjaaGreatEqv2
import Derived.Orders
import Derived.Below
import Derived.Laws.AppendOwn
import Derived.Laws.MakeOwn
import Derived.Laws.CopyRow
import Derived.Laws.Rows
import Derived.Laws.Cells
import Derived.Tactics
import Derived.Laws.BitsLemmas
import Derived.Maps.Range
import Derived.Carry
import Derived.Test.YtjmpajgjaefcjaaGreatProg
set_option linter.unusedVariables false
set_option linter.unusedSimpArgs false
set_option maxRecDepth 100000

namespace Go.Proofs.YtjmpajgjaefcjaaGreat.Vm
open Go
def retK (K:St→Prop) (s:St) (d:Option Tmp):AV→Prop:=fun z=>K (s.ret d z)
def retK2 (K:St→Prop) (d:Option Tmp):AV→St→Prop:=fun z s'=>K (s'.ret d z)
def valK (C:Eff→Prop) (d rd:Option Nat):AV→Prop:=fun z=>C ⟨d,z,rd,none⟩
def wrK (C:Eff→Prop):Nat × Ob→Prop:=fun wr=>C ⟨none,.any,none,some wr⟩
def sethK (K:St→Prop) (s:St):Nat × Ob→Prop:=fun wr=>K (s.seth wr.1 wr.2)
def atK (C:Eff→St→Prop) (s:St):Eff→Prop:=fun f=>C f s
def restV (P:Program) (ops:Array Oper) (L:List (Nat × Nat)) (rest:List Oper) (acc:List (Option Nat × Option Nat)) (K:St→Prop):Eff→St→Prop:=fun f s'=>regV P ops L rest (f.app s') (acc++[(f.rd,f.wi)]) K
def restO (P:Program) (pins:List Nat) (ops:Array Oper) (rest:List Oper) (K:St→Prop):St→Prop:=fun s'=>opsW P pins ops rest s' K
theorem retK_ap {K:St→Prop} {s:St} {d:Option Tmp} {z:AV}:retK K s d z=K (s.ret d z):=id rfl
theorem retK2_ap {K:St→Prop} {s:St} {d:Option Tmp} {z:AV}:retK2 K d z s=K (s.ret d z):=id rfl
theorem valK_ap {C:Eff→Prop} {d rd:Option Nat} {z:AV}:valK C d rd z=C ⟨d,z,rd,none⟩:=id rfl
theorem wrK_ap {C:Eff→Prop} {wr:Nat × Ob}:wrK C wr=C ⟨none,.any,none,some wr⟩:=id rfl
theorem sethK_ap {K:St→Prop} {s:St} {i:Nat} {o:Ob}:sethK K s (i,o)=K (s.seth i o):=id rfl
theorem atK_ap {C:Eff→St→Prop} {s:St} {f:Eff}:atK C s f=C f s:=id rfl
theorem restV_ap {P:Program} {ops:Array Oper} {L:List (Nat × Nat)} {rest:List Oper} {acc:List (Option Nat × Option Nat)} {K:St→Prop} {f:Eff} {s:St}:restV P ops L rest acc K f s=regV P ops L rest (f.app s) (acc++[(f.rd,f.wi)]) K:=id rfl
theorem restO_ap {P:Program} {pins:List Nat} {ops:Array Oper} {rest:List Oper} {K:St→Prop} {s:St}:restO P pins ops rest K s=opsW P pins ops rest s K:=id rfl
section
variable {P:Program} {nw:Bool} {hp:List Ob} {pins:List Nat} {ops:Array Oper} {L:List (Nat × Nat)} {d:Option Tmp} {ty t u:TypeId} {p:String} {a:Array Edge} {g:Option (Nat × Bool)} {s:St} {C:Eff→Prop} {C2:Eff→St→Prop} {K:St→Prop} {A:AV→Prop}
theorem opF_move {x:Operand}:(opF P nw ⟨d,.move x,ty,p,a,g⟩ s C=(C ⟨d,ev s.env x,none,none⟩)):=propext Iff.rfl
theorem opW_move {x:Operand}:(opW P pins ⟨d,.move x,ty,p,a,g⟩ s K=(K (s.ret d (ev s.env x)))):=propext Iff.rfl
theorem opF_assign {x:Operand}:(opF P nw ⟨d,.assign x,ty,p,a,g⟩ s C=(C ⟨d,ev s.env x,none,none⟩)):=propext Iff.rfl
theorem opW_assign {x:Operand}:(opW P pins ⟨d,.assign x,ty,p,a,g⟩ s K=(K (s.ret d (ev s.env x)))):=propext Iff.rfl
theorem opF_pick {c x y:Operand}:(opF P nw ⟨d,.pick c x y,ty,p,a,g⟩ s C=(pickW (ev s.env c) (ev s.env x) (ev s.env y) (valK C d none))):=propext Iff.rfl
theorem opW_pick {c x y:Operand}:(opW P pins ⟨d,.pick c x y,ty,p,a,g⟩ s K=(pickW (ev s.env c) (ev s.env x) (ev s.env y) (retK K s d))):=propext Iff.rfl
theorem opF_build {ps:Array (Nat × Operand)}:(opF P nw ⟨d,.build t ps,ty,p,a,g⟩ s C=(buildW P (tyOf P t) (ps.toList.map fun p=>(p.1,ev s.env p.2)) (valK C d none))):=propext Iff.rfl
theorem opW_build {ps:Array (Nat × Operand)}:(opW P pins ⟨d,.build t ps,ty,p,a,g⟩ s K=(buildW P (tyOf P t) (ps.toList.map fun p=>(p.1,ev s.env p.2)) (retK K s d))):=propext Iff.rfl
theorem opF_buildSlice {n:Nat} {ps:Array (Nat × Operand)}:(opF P nw ⟨d,.buildSlice t n ps,ty,p,a,g⟩ s C=(litD P (tyOf P t) d n (ps.toList.map fun p=>(p.1,ev s.env p.2)) s.hp (valK C d d))):=propext Iff.rfl
theorem opW_buildSlice {n:Nat} {ps:Array (Nat × Operand)}:(opW P pins ⟨d,.buildSlice t n ps,ty,p,a,g⟩ s K=(litW P (tyOf P t) d n (ps.toList.map fun p=>(p.1,ev s.env p.2)) s (retK2 K d))):=propext Iff.rfl
theorem opF_load {x:Operand}:(opF P nw ⟨d,.load t x,ty,p,a,g⟩ s C=((tyOf P t).d ≠ .no∧((tyOf P t).isAgg=true∨(tyOf P t).size=1)∧loadW (tyOf P t) (ev s.env x) s.hp (valK C d (objOf (ev s.env x))))):=propext Iff.rfl
theorem opW_load {x:Operand}:(opW P pins ⟨d,.load t x,ty,p,a,g⟩ s K=((tyOf P t).d ≠ .no∧((tyOf P t).isAgg=true∨(tyOf P t).size=1)∧loadW (tyOf P t) (ev s.env x) s.hp (retK K s d))):=propext Iff.rfl
theorem opF_store {x y:Operand}:(opF P nw ⟨d,.store t x y,ty,p,a,g⟩ s C=(d=none∧(tyOf P t).d ≠ .no∧storeF (tyOf P t) (ev s.env x) (ev s.env y) s.hp (wrK C))):=propext Iff.rfl
theorem opW_store {x y:Operand}:(opW P pins ⟨d,.store t x y,ty,p,a,g⟩ s K=(d=none∧(tyOf P t).d ≠ .no∧storeW (tyOf P t) (ev s.env x) (ev s.env y) s K)):=propext Iff.rfl
theorem opF_nilCheck {x:Operand}:(opF P nw ⟨d,.nilCheck x,ty,p,a,g⟩ s C=(nilCheckW (ev s.env x) (valK C d none))):=propext Iff.rfl
theorem opW_nilCheck {x:Operand}:(opW P pins ⟨d,.nilCheck x,ty,p,a,g⟩ s K=(nilCheckW (ev s.env x) (retK K s d))):=propext Iff.rfl
theorem opF_binOp {op:BinOp} {x y:Operand}:(opF P nw ⟨d,.binOp op t x y u,ty,p,a,g⟩ s C=(binW P (tyOf P t) op (ev s.env x) (ev s.env y) (valK C d none))):=propext Iff.rfl
theorem opW_binOp {op:BinOp} {x y:Operand}:(opW P pins ⟨d,.binOp op t x y u,ty,p,a,g⟩ s K=(binW P (tyOf P t) op (ev s.env x) (ev s.env y) (retK K s d))):=propext Iff.rfl
theorem opF_unOp {op:UnOp} {x:Operand}:(opF P nw ⟨d,.unOp op t x,ty,p,a,g⟩ s C=(unW op (ev s.env x) (valK C d none))):=propext Iff.rfl
theorem opW_unOp {op:UnOp} {x:Operand}:(opW P pins ⟨d,.unOp op t x,ty,p,a,g⟩ s K=(unW op (ev s.env x) (retK K s d))):=propext Iff.rfl
theorem opF_convert {x:Operand}:(opF P nw ⟨d,.convert t u x,ty,p,a,g⟩ s C=(convW (tyOf P t) (tyOf P u) (ev s.env x) (valK C d none))):=propext Iff.rfl
theorem opW_convert {x:Operand}:(opW P pins ⟨d,.convert t u x,ty,p,a,g⟩ s K=(convW (tyOf P t) (tyOf P u) (ev s.env x) (retK K s d))):=propext Iff.rfl
theorem opF_slice {x:Operand} {lo hi mx:Option Operand}:(opF P nw ⟨d,.slice t x lo hi mx,ty,p,a,g⟩ s C=(sliceW P (tyOf P t) (ev s.env x) (evo s.env lo) (evo s.env hi) (evo s.env mx) s.hp (valK C d (objOf (ev s.env x))))):=propext Iff.rfl
theorem opW_slice {x:Operand} {lo hi mx:Option Operand}:(opW P pins ⟨d,.slice t x lo hi mx,ty,p,a,g⟩ s K=(sliceW P (tyOf P t) (ev s.env x) (evo s.env lo) (evo s.env hi) (evo s.env mx) s.hp (retK K s d))):=propext Iff.rfl
theorem opF_fieldAddr {x:Operand} {f:Nat}:(opF P nw ⟨d,.fieldAddr t x f,ty,p,a,g⟩ s C=(fieldAddrW P (tyOf P t) (ev s.env x) f (valK C d none))):=propext Iff.rfl
theorem opW_fieldAddr {x:Operand} {f:Nat}:(opW P pins ⟨d,.fieldAddr t x f,ty,p,a,g⟩ s K=(fieldAddrW P (tyOf P t) (ev s.env x) f (retK K s d))):=propext Iff.rfl
theorem opF_field {x:Operand} {f:Nat}:(opF P nw ⟨d,.field t x f,ty,p,a,g⟩ s C=(fieldW P (tyOf P t) (ev s.env x) f (valK C d none))):=propext Iff.rfl
theorem opW_field {x:Operand} {f:Nat}:(opW P pins ⟨d,.field t x f,ty,p,a,g⟩ s K=(fieldW P (tyOf P t) (ev s.env x) f (retK K s d))):=propext Iff.rfl
theorem opF_indexAddr {x y:Operand}:(opF P nw ⟨d,.indexAddr t x y,ty,p,a,g⟩ s C=(indexAddrW P (tyOf P t) (ev s.env x) (ev s.env y) s.hp (valK C d (objOf (ev s.env x))))):=propext Iff.rfl
theorem opW_indexAddr {x y:Operand}:(opW P pins ⟨d,.indexAddr t x y,ty,p,a,g⟩ s K=(indexAddrW P (tyOf P t) (ev s.env x) (ev s.env y) s.hp (retK K s d))):=propext Iff.rfl
theorem opF_index {x y:Operand}:(opF P nw ⟨d,.index t x y,ty,p,a,g⟩ s C=(indexW P (tyOf P t) (ev s.env x) (ev s.env y) (valK C d none))):=propext Iff.rfl
theorem opW_index {x y:Operand}:(opW P pins ⟨d,.index t x y,ty,p,a,g⟩ s K=(indexW P (tyOf P t) (ev s.env x) (ev s.env y) (retK K s d))):=propext Iff.rfl
theorem opF_extract {x:Operand} {i:Nat}:(opF P nw ⟨d,.extract x i,ty,p,a,g⟩ s C=(extractW (ev s.env x) i (valK C d none))):=propext Iff.rfl
theorem opW_extract {x:Operand} {i:Nat}:(opW P pins ⟨d,.extract x i,ty,p,a,g⟩ s K=(extractW (ev s.env x) i (retK K s d))):=propext Iff.rfl
theorem opF_makeFunc {f:Fn} {fs cs:Array Operand}:(opF P nw ⟨d,.makeFunc f fs cs,ty,p,a,g⟩ s C=(C ⟨d,.fn f (fs.toList.map (ev s.env)) (cs.toList.map (ev s.env)),none,none⟩)):=propext Iff.rfl
theorem opW_makeFunc {f:Fn} {fs cs:Array Operand}:(opW P pins ⟨d,.makeFunc f fs cs,ty,p,a,g⟩ s K=(K (s.ret d (.fn f (fs.toList.map (ev s.env)) (cs.toList.map (ev s.env)))))):=propext Iff.rfl
theorem opF_len {x:Operand}:(opF P nw ⟨d,.call ⟨.builtin .len,⟨[x]⟩,⟨[t]⟩⟩,ty,p,a,g⟩ s C=(lenW (tyOf P t) (ev s.env x) (valK C d none))):=propext Iff.rfl
theorem opW_len {x:Operand}:(opW P pins ⟨d,.call ⟨.builtin .len,⟨[x]⟩,⟨[t]⟩⟩,ty,p,a,g⟩ s K=(lenW (tyOf P t) (ev s.env x) (retK K s d))):=propext Iff.rfl
theorem opW_append {x y:Operand}:(opW P pins ⟨d,.call ⟨.builtin .append,⟨[x,y]⟩,⟨[t,u]⟩⟩,ty,p,a,g⟩ s K=(t=u∧appendW P (tyOf P t) pins d (ev s.env x) (ev s.env y) s (retK2 K d))):=propext Iff.rfl
theorem opW_copy {x y:Operand}:(opW P pins ⟨d,.call ⟨.builtin .copy,⟨[x,y]⟩,⟨[t,u]⟩⟩,ty,p,a,g⟩ s K=(copyW P (tyOf P t) (ev s.env x) (ev s.env y) s (retK2 K d))):=propext Iff.rfl
theorem opW_clear {x:Operand}:(opW P pins ⟨d,.call ⟨.builtin .clear,⟨[x]⟩,⟨[t]⟩⟩,ty,p,a,g⟩ s K=(clearW P (tyOf P t) (ev s.env x) s (fun s'=>K (s'.ret d .any)))):=propext Iff.rfl
def clrO (P:Program) (e:TypeId) (i off n:Nat) (s:St) (K:St→Prop) (o:Ob):Prop :=
 match o with
 | .arr T k pf rows=>k=(tyOf P e).size∧off+n≤rows.length∧K (s.seth i (.arr T k pf (rows.take off++List.replicate n (tyOf P e).zero++rows.drop (off+n))))
 | _=>False
theorem clearW_sref {e:TypeId} {n0 b:Nat} {hz:Bool} {z:List AV} {i off n:Nat}:(clearW P ⟨.slice e,n0,b,hz,z⟩ (.sref i off n) s K=((tyOf P e).d ≠ .no∧(tyOf P e).hz=true∧(tyOf P e).zero.length=(tyOf P e).size∧(tyOf P e).zero.all AV.one=true∧clrO P e i off n s K (s.hp.getD i .dead))):=by
 unfold clearW clrO
 rfl
theorem clrO_arr {e:TypeId} {i off n:Nat} {T:TypeId} {k:Nat} {pf:Bool} {rows:List (List AV)}:(clrO P e i off n s K (.arr T k pf rows)=(k=(tyOf P e).size∧off+n≤rows.length∧K (s.seth i (.arr T k pf (rows.take off++List.replicate n (tyOf P e).zero++rows.drop (off+n)))))):=propext Iff.rfl
theorem opW_makeSlice {x y:Operand}:(opW P pins ⟨d,.makeSlice t x y,ty,p,a,g⟩ s K=(makeW P (tyOf P t) d (ev s.env x) (ev s.env y) s (retK2 K d))):=propext Iff.rfl
theorem opF_alloc {d:Tmp}:(opF P nw ⟨some d,.alloc t,ty,p,a,g⟩ s C=(dead s d∧(tyOf P t).d ≠ .no∧(tyOf P t).hz=true∧C ⟨some d,.ptr d 0 0,none,some (d,.arr t (tyOf P t).zero.length false [(tyOf P t).zero])⟩)):=propext Iff.rfl
theorem opF_box {d:Tmp} {x:Operand}:(opF P nw ⟨some d,.box t x,ty,p,a,g⟩ s C=(dead s d∧storable (ev s.env x)=true∧C ⟨some d,.ptr d 0 0,none,some (d,.arr t (cellsOf (ev s.env x)).length false [cellsOf (ev s.env x)])⟩)):=propext Iff.rfl
theorem opW_alloc {d:Tmp}:(opW P pins ⟨some d,.alloc t,ty,p,a,g⟩ s K=(dead s d∧(tyOf P t).d ≠ .no∧(tyOf P t).hz=true∧K ((s.seth d (.arr t (tyOf P t).zero.length false [(tyOf P t).zero])).ret (some d) (.ptr d 0 0)))):=propext Iff.rfl
theorem opW_box {d:Tmp} {x:Operand}:(opW P pins ⟨some d,.box t x,ty,p,a,g⟩ s K=(dead s d∧storable (ev s.env x)=true∧K ((s.seth d (.arr t (cellsOf (ev s.env x)).length false [cellsOf (ev s.env x)])).ret (some d) (.ptr d 0 0)))):=propext Iff.rfl
def callF (P:Program) (nw:Bool) (hp:List Ob) (d:Option Tmp) (f:AV) (avs:List AV) (C:Eff→Prop):Prop :=
 match f with
 | .fn (.func g) first cap=>enters P g=true∧∃ r,CallFx P nw hp g (first++avs++cap) r∧C ⟨d,r,none,none⟩
 | _=>False
def callW (P:Program) (pins:List Nat) (d:Option Tmp) (f:AV) (avs:List AV) (s:St) (K:St→Prop):Prop :=
 match f with
 | .fn (.func g) first cap=>enters P g=true∧CallOk P pins g (first++avs++cap) s (retK2 K d)
 | _=>False
theorem opF_call {f:Operand} {xs:List Operand} {tys:Array TypeId}:(opF P nw ⟨d,.call ⟨.value f,⟨xs⟩,tys⟩,ty,p,a,g⟩ s C=callF P nw s.hp d (ev s.env f) (xs.map (ev s.env)) C):=propext Iff.rfl
theorem opW_call {f:Operand} {xs:List Operand} {tys:Array TypeId}:(opW P pins ⟨d,.call ⟨.value f,⟨xs⟩,tys⟩,ty,p,a,g⟩ s K=callW P pins d (ev s.env f) (xs.map (ev s.env)) s K):=propext Iff.rfl
theorem callF_fn {g:FuncId} {first cap avs:List AV}:(callF P nw hp d (.fn (.func g) first cap) avs C=(enters P g=true∧∃ r,CallFx P nw hp g (first++avs++cap) r∧C ⟨d,r,none,none⟩)):=propext Iff.rfl
theorem callW_fn {g:FuncId} {first cap avs:List AV}:(callW P pins d (.fn (.func g) first cap) avs s K=(enters P g=true∧CallOk P pins g (first++avs++cap) s (retK2 K d))):=propext Iff.rfl
def effG (P:Program) (nw:Bool) (ops:Array Oper) (o:Oper) (j:Nat) (want:Bool) (x:AV) (s:St) (C:Eff→St→Prop):Prop :=
 match x with
 | .bool b=>(b=want→opF P nw o (s.known ops j want) (atK C (s.known ops j want)))∧(b=(!want)→C ⟨o.dst,.und,none,none⟩ (s.known ops j (!want)))
 | .und=>C ⟨o.dst,.und,none,none⟩ s
 | _=>False
def opsG (P:Program) (pins:List Nat) (ops:Array Oper) (o:Oper) (rest:List Oper) (j:Nat) (want:Bool) (x:AV) (s:St) (K:St→Prop):Prop :=
 match x with
 | .bool b=>(b=want→opW P pins o (s.known ops j want) (restO P pins ops rest K))∧(b=(!want)→opsW P pins ops rest ((s.known ops j (!want)).ret o.dst .und) K)
 | .und=>opsW P pins ops rest (s.ret o.dst .und) K
 | _=>False
def effH (P:Program) (nw:Bool) (ops:Array Oper) (o:Oper) (want:Bool) (x:AV) (s:St) (C:Eff→St→Prop):Prop :=
 match x with
 | .bool b=>bif b == want then opF P nw o s (atK C s) else C ⟨o.dst,.und,none,none⟩ s
 | .und=>C ⟨o.dst,.und,none,none⟩ s
 | _=>False
def opsH (P:Program) (pins:List Nat) (ops:Array Oper) (o:Oper) (rest:List Oper) (want:Bool) (x:AV) (s:St) (K:St→Prop):Prop :=
 match x with
 | .bool b=>bif b == want then opW P pins o s (restO P pins ops rest K) else opsW P pins ops rest (s.ret o.dst .und) K
 | .und=>opsW P pins ops rest (s.ret o.dst .und) K
 | _=>False
theorem effH_tt {o:Oper}:(effH P nw ops o true (.bool true) s C2=opF P nw o s (atK C2 s)):=propext Iff.rfl
theorem effH_ff {o:Oper}:(effH P nw ops o false (.bool false) s C2=opF P nw o s (atK C2 s)):=propext Iff.rfl
theorem effH_tf {o:Oper}:(effH P nw ops o true (.bool false) s C2=C2 ⟨o.dst,.und,none,none⟩ s):=propext Iff.rfl
theorem effH_ft {o:Oper}:(effH P nw ops o false (.bool true) s C2=C2 ⟨o.dst,.und,none,none⟩ s):=propext Iff.rfl
theorem effH_und {o:Oper} {want:Bool}:(effH P nw ops o want .und s C2=C2 ⟨o.dst,.und,none,none⟩ s):=propext Iff.rfl
theorem opsH_tt {o:Oper} {rest:List Oper}:(opsH P pins ops o rest true (.bool true) s K=opW P pins o s (restO P pins ops rest K)):=propext Iff.rfl
theorem opsH_ff {o:Oper} {rest:List Oper}:(opsH P pins ops o rest false (.bool false) s K=opW P pins o s (restO P pins ops rest K)):=propext Iff.rfl
theorem opsH_tf {o:Oper} {rest:List Oper}:(opsH P pins ops o rest true (.bool false) s K=opsW P pins ops rest (s.ret o.dst .und) K):=propext Iff.rfl
theorem opsH_ft {o:Oper} {rest:List Oper}:(opsH P pins ops o rest false (.bool true) s K=opsW P pins ops rest (s.ret o.dst .und) K):=propext Iff.rfl
theorem opsH_und {o:Oper} {rest:List Oper} {want:Bool}:(opsH P pins ops o rest want .und s K=opsW P pins ops rest (s.ret o.dst .und) K):=propext Iff.rfl
theorem effW_free {op:Op}:(effW P nw ops ⟨d,op,ty,p,a,none⟩ s C2=opF P nw ⟨d,op,ty,p,a,none⟩ s (atK C2 s)):=propext Iff.rfl
theorem effW_guard {op:Op} {j:Nat} {want:Bool}:(effW P nw ops ⟨d,op,ty,p,a,some (j,want)⟩ s C2=effH P nw ops ⟨d,op,ty,p,a,some (j,want)⟩ want (guardOf ops s.env j) s C2):=by
 refine propext ?_
 show effG P nw ops ⟨d,op,ty,p,a,some (j,want)⟩ j want (guardOf ops s.env j) s C2↔_
 cases hx:guardOf ops s.env j with
 | bool b =>
  show ((b=want→opF P nw _ (s.known ops j want) (atK C2 (s.known ops j want)))∧(b=(!want)→C2 _ (s.known ops j (!want))))↔_
  by_cases hb:b=want
  ·subst hb
   rw [known_eq hx]
   cases b <;> simp [effH]
  ·have hb2:b=!want:=by cases b <;> cases want <;> simp_all
   subst hb2
   rw [known_eq hx]
   cases want <;> simp [effH]
 | _=>exact Iff.rfl
theorem opsW_nil  : (opsW P pins ops [] s K=K s):=propext Iff.rfl
theorem opsW_free {op:Op} {rest:List Oper}:(opsW P pins ops (⟨d,op,ty,p,a,none⟩::rest) s K=opW P pins ⟨d,op,ty,p,a,none⟩ s (restO P pins ops rest K)):=propext Iff.rfl
theorem opsW_guard {op:Op} {rest:List Oper} {j:Nat} {want:Bool}:(opsW P pins ops (⟨d,op,ty,p,a,some (j,want)⟩::rest) s K=opsH P pins ops ⟨d,op,ty,p,a,some (j,want)⟩ rest want (guardOf ops s.env j) s K):=by
 refine propext ?_
 show opsG P pins ops ⟨d,op,ty,p,a,some (j,want)⟩ rest j want (guardOf ops s.env j) s K↔_
 cases hx:guardOf ops s.env j with
 | bool b =>
  show ((b=want→opW P pins _ (s.known ops j want) (restO P pins ops rest K))∧(b=(!want)→opsW P pins ops rest ((s.known ops j (!want)).ret _ .und) K))↔_
  by_cases hb:b=want
  ·subst hb
   rw [known_eq hx]
   cases b <;> simp [opsH]
  ·have hb2:b=!want:=by cases b <;> cases want <;> simp_all
   subst hb2
   rw [known_eq hx]
   cases want <;> simp [opsH]
 | _=>exact Iff.rfl
theorem regV_nil {acc:List (Option Nat × Option Nat)}:(regV P ops L [] s acc K=(sepL L acc∧K s)):=propext Iff.rfl
theorem regV_cons {acc:List (Option Nat × Option Nat)} {o:Oper} {rest:List Oper}:(regV P ops L (o::rest) s acc K=effW P (nwL L) ops o s (restV P ops L rest acc K)):=propext Iff.rfl
theorem binW_add {k:IntKind} {x y:Int} {ti:TI}:binW P ti .add (.int k x) (.int k y) A=A (.int k (k.wrap (x+y))):=propext ⟨fun h=>h.2,fun h=>⟨rfl,h⟩⟩
theorem binW_sub {k:IntKind} {x y:Int} {ti:TI}:binW P ti .sub (.int k x) (.int k y) A=A (.int k (k.wrap (x-y))):=propext ⟨fun h=>h.2,fun h=>⟨rfl,h⟩⟩
theorem binW_mul {k:IntKind} {x y:Int} {ti:TI}:binW P ti .mul (.int k x) (.int k y) A=A (.int k (k.wrap (x*y))):=propext ⟨fun h=>h.2,fun h=>⟨rfl,h⟩⟩
theorem binW_and {k:IntKind} {x y:Int} {ti:TI}:binW P ti .and (.int k x) (.int k y) A=A (.int k (bandI k x y)):=propext ⟨fun h=>h.2,fun h=>⟨rfl,h⟩⟩
theorem binW_or {k:IntKind} {x y:Int} {ti:TI}:binW P ti .or (.int k x) (.int k y) A=A (.int k (borI k x y)):=propext ⟨fun h=>h.2,fun h=>⟨rfl,h⟩⟩
theorem binW_xor {k:IntKind} {x y:Int} {ti:TI}:binW P ti .xor (.int k x) (.int k y) A=A (.int k (bxorI k x y)):=propext ⟨fun h=>h.2,fun h=>⟨rfl,h⟩⟩
theorem binW_andNot {k:IntKind} {x y:Int} {ti:TI}:binW P ti .andNot (.int k x) (.int k y) A=A (.int k (bandnI k x y)):=propext ⟨fun h=>h.2,fun h=>⟨rfl,h⟩⟩
theorem binW_eql {k:IntKind} {x y:Int} {ti:TI}:binW P ti .eql (.int k x) (.int k y) A=A (.bool (x == y)):=propext ⟨fun h=>h.2,fun h=>⟨rfl,h⟩⟩
theorem binW_neq {k:IntKind} {x y:Int} {ti:TI}:binW P ti .neq (.int k x) (.int k y) A=A (.bool (x != y)):=propext ⟨fun h=>h.2,fun h=>⟨rfl,h⟩⟩
theorem binW_lss {k:IntKind} {x y:Int} {ti:TI}:binW P ti .lss (.int k x) (.int k y) A=A (.bool (decide (x<y))):=propext ⟨fun h=>h.2,fun h=>⟨rfl,h⟩⟩
theorem binW_leq {k:IntKind} {x y:Int} {ti:TI}:binW P ti .leq (.int k x) (.int k y) A=A (.bool (decide (x≤y))):=propext ⟨fun h=>h.2,fun h=>⟨rfl,h⟩⟩
theorem binW_gtr {k:IntKind} {x y:Int} {ti:TI}:binW P ti .gtr (.int k x) (.int k y) A=A (.bool (decide (x>y))):=propext ⟨fun h=>h.2,fun h=>⟨rfl,h⟩⟩
theorem binW_geq {k:IntKind} {x y:Int} {ti:TI}:binW P ti .geq (.int k x) (.int k y) A=A (.bool (decide (x≥y))):=propext ⟨fun h=>h.2,fun h=>⟨rfl,h⟩⟩
theorem binW_quo {k:IntKind} {x y:Int} {ti:TI}:binW P ti .quo (.int k x) (.int k y) A=(y≠0∧A (.int k (k.wrap (x.tdiv y)))):=propext ⟨fun h=>h.2,fun h=>⟨rfl,h⟩⟩
theorem binW_rem {k:IntKind} {x y:Int} {ti:TI}:binW P ti .rem (.int k x) (.int k y) A=(y≠0∧A (.int k (x.tmod y))):=propext ⟨fun h=>h.2,fun h=>⟨rfl,h⟩⟩
theorem binW_shl {k k2:IntKind} {x y:Int} {ti:TI}:(binW P ti .shl (.int k x) (.int k2 y) A=(0≤y∧A (.int k (k.wrap (x*p2 (min y.toNat k.bits)))))):=propext Iff.rfl
theorem binW_shr {k k2:IntKind} {x y:Int} {ti:TI}:(binW P ti .shr (.int k x) (.int k2 y) A=(0≤y∧A (.int k (x.fdiv (2^min y.toNat k.bits))))):=propext Iff.rfl
theorem binW_beql {b c:Bool} {ti:TI}:(binW P ti .eql (.bool b) (.bool c) A=(ti.d = .bool∧A (.bool (b == c)))):=propext Iff.rfl
theorem binW_bneq {b c:Bool} {ti:TI}:(binW P ti .neq (.bool b) (.bool c) A=(ti.d = .bool∧A (.bool (!(b == c))))):=propext Iff.rfl
theorem binW_seql {b c:ByteArray} {ti:TI}:(binW P ti .eql (.str b) (.str c) A=A (.bool (b.toList == c.toList))):=propext Iff.rfl
theorem binW_sneq {b c:ByteArray} {ti:TI}:(binW P ti .neq (.str b) (.str c) A=A (.bool (!(b.toList == c.toList)))):=propext Iff.rfl
theorem pickW_bool {c x y:Bool}:(pickW (.bool c) (.bool x) (.bool y) A=A (.bool (bif c then x else y))):=propext Iff.rfl
theorem pickW_yes {x y:AV}:pickW (.bool true) x y A=A x:=by
 refine propext ⟨fun h=>?_,fun h=>?_⟩
 ·obtain ⟨z,h1,h2⟩:=pickW_det _ _ _ _ h
  cases x <;> cases y <;> first | exact h | exact h.1 rfl
 ·cases x <;> cases y <;> first | exact h | exact ⟨fun _=>h,(fun h=>by cases h)⟩
theorem pickW_no {x y:AV}:pickW (.bool false) x y A=A y:=by
 refine propext ⟨fun h=>?_,fun h=>?_⟩
 ·cases x <;> cases y <;> first | exact h | exact h.2 rfl
 ·cases x <;> cases y <;> first | exact h | exact ⟨(fun h=>by cases h),fun _=>h⟩
theorem extractW_tup {l:List AV} {i:Nat}:(extractW (.tup l) i A=(i<l.length∧A (l.getD i .any))):=propext Iff.rfl
theorem nilCheckW_ptr {i j off:Nat}:(nilCheckW (.ptr i j off) A=A (.ptr i j off)):=propext Iff.rfl
theorem nilCheckW_ia {row:List AV} {off:Nat}:(nilCheckW (.ia row off) A=A (.ia row off)):=propext Iff.rfl
theorem loadW_ia {ti:TI} {row:List AV} {off:Nat} {hp:List Ob}:(loadW ti (.ia row off) hp A=(off+ti.size≤row.length∧A (ofCells ti ((row.drop off).take ti.size)))):=propext Iff.rfl
def loadO (ti:TI) (j off:Nat) (o:Ob) (A:AV→Prop):Prop :=
 match o with
 | .arr _ _ _ rows=>j<rows.length∧off+ti.size≤(rows.getD j []).length∧A (ofCells ti (((rows.getD j []).drop off).take ti.size))
 | _=>False
def storeO (ti:TI) (i j off:Nat) (y:AV) (o:Ob) (C:Nat × Ob→Prop):Prop :=
 match o with
 | .arr T k pf rows=>storable y=true∧(cellsOf y).length=ti.size∧(pf=true→AV.pures (cellsOf y)=true)∧j<rows.length∧off+ti.size≤(rows.getD j []).length ∧
    C (i,.arr T k pf (rows.set j (overlay (rows.getD j []) off (cellsOf y))))
 | _=>False
def kOk (o:Ob) (n:Nat):Prop:=match o with | .arr _ k _ _=>k=n | _=>False
theorem kOk_arr {T:TypeId} {k n:Nat} {pf:Bool} {rows:List (List AV)}:(kOk (.arr T k pf rows) n=(k=n)):=propext Iff.rfl
theorem loadW_ptr {ti:TI} {i j off:Nat} {hp:List Ob}:(loadW ti (.ptr i j off) hp A=loadO ti j off (hp.getD i .dead) A):=propext Iff.rfl
theorem loadO_arr {ti:TI} {j off:Nat} {T:TypeId} {k:Nat} {pf:Bool} {rows:List (List AV)}:(loadO ti j off (.arr T k pf rows) A=(j<rows.length∧off+ti.size≤(rows.getD j []).length∧A (ofCells ti (((rows.getD j []).drop off).take ti.size)))):=propext Iff.rfl
theorem storeF_ptr {ti:TI} {i j off:Nat} {y:AV} {hp:List Ob} {C:Nat × Ob→Prop}:(storeF ti (.ptr i j off) y hp C=storeO ti i j off y (hp.getD i .dead) C):=propext Iff.rfl
theorem storeW_ptr {ti:TI} {i j off:Nat} {y:AV}:(storeW ti (.ptr i j off) y s K=storeO ti i j off y (s.hp.getD i .dead) (sethK K s)):=propext Iff.rfl
theorem storeO_arr {ti:TI} {i j off:Nat} {y:AV} {T:TypeId} {k:Nat} {pf:Bool} {rows:List (List AV)} {C:Nat × Ob→Prop}:(storeO ti i j off y (.arr T k pf rows) C=(storable y=true∧(cellsOf y).length=ti.size∧(pf=true→AV.pures (cellsOf y)=true)∧j<rows.length∧off+ti.size≤(rows.getD j []).length∧C (i,.arr T k pf (rows.set j (overlay (rows.getD j []) off (cellsOf y)))))):=propext Iff.rfl
theorem fieldAddrW_ia {n b:Nat} {hz:Bool} {z:List AV} {fs:List (Nat × TypeId)} {row:List AV} {off f:Nat}:(fieldAddrW P ⟨.struct fs,n,b,hz,z⟩ (.ia row off) f A=(f<fs.length∧(tyOf P (fs.getD f (0,0)).2).d ≠ .no∧(tyOf P (fs.getD f (0,0)).2).size≠0∧A (.ia row (off+(fs.getD f (0,0)).1)))):=propext Iff.rfl
theorem fieldAddrW_ptr {n b:Nat} {hz:Bool} {z:List AV} {fs:List (Nat × TypeId)} {i j off f:Nat}:(fieldAddrW P ⟨.struct fs,n,b,hz,z⟩ (.ptr i j off) f A=(f<fs.length∧(tyOf P (fs.getD f (0,0)).2).d ≠ .no∧(tyOf P (fs.getD f (0,0)).2).size≠0∧A (.ptr i j (off+(fs.getD f (0,0)).1)))):=propext Iff.rfl
theorem fieldW_agg {n b:Nat} {hz:Bool} {z:List AV} {fs:List (Nat × TypeId)} {cs:List AV} {f:Nat}:(fieldW P ⟨.struct fs,n,b,hz,z⟩ (.agg cs) f A=(f<fs.length∧(tyOf P (fs.getD f (0,0)).2).d ≠ .no∧((tyOf P (fs.getD f (0,0)).2).isAgg=true∨(tyOf P (fs.getD f (0,0)).2).size=1)∧(fs.getD f (0,0)).1+(tyOf P (fs.getD f (0,0)).2).size≤cs.length∧A (ofCells (tyOf P (fs.getD f (0,0)).2) ((cs.drop (fs.getD f (0,0)).1).take (tyOf P (fs.getD f (0,0)).2).size)))):=propext Iff.rfl
theorem indexAddrW_sl {n b:Nat} {hz:Bool} {z:List AV} {e:TypeId} {rows:List (List AV)} {k:IntKind} {m:Int} {hp:List Ob}:(indexAddrW P ⟨.slice e,n,b,hz,z⟩ (.sl rows) (.int k m) hp A=((tyOf P e).d ≠ .no∧0≤m∧m<rows.length∧AllLen (tyOf P e).size rows∧A (.ia (rows.getD m.toNat []) 0))):=propext Iff.rfl
theorem indexAddrW_sref {n b:Nat} {hz:Bool} {z:List AV} {e:TypeId} {i off c:Nat} {k:IntKind} {m:Int} {hp:List Ob}:(indexAddrW P ⟨.slice e,n,b,hz,z⟩ (.sref i off c) (.int k m) hp A=((tyOf P e).d ≠ .no∧0≤m∧m<c∧kOk (hp.getD i .dead) (tyOf P e).size∧A (.ptr i (off+m.toNat) 0))):=propext Iff.rfl
theorem indexAddrW_aptr {n b:Nat} {hz:Bool} {z:List AV} {e:TypeId} {len i j off:Nat} {k:IntKind} {m:Int} {hp:List Ob}:(indexAddrW P ⟨.arr len e,n,b,hz,z⟩ (.ptr i j off) (.int k m) hp A=((tyOf P e).d ≠ .no∧0≤m∧m<len∧A (.ptr i j (off+m.toNat*(tyOf P e).size)))):=propext Iff.rfl
theorem indexAddrW_aia {n b:Nat} {hz:Bool} {z:List AV} {e:TypeId} {len off:Nat} {row:List AV} {k:IntKind} {m:Int} {hp:List Ob}:(indexAddrW P ⟨.arr len e,n,b,hz,z⟩ (.ia row off) (.int k m) hp A=((tyOf P e).d ≠ .no∧0≤m∧m<len∧A (.ia row (off+m.toNat*(tyOf P e).size)))):=propext Iff.rfl
theorem indexW_str {n b:Nat} {hz:Bool} {z:List AV} {s:ByteArray} {k:IntKind} {m:Int}:(indexW P ⟨.str,n,b,hz,z⟩ (.str s) (.int k m) A=(0≤m∧m<s.size∧A (.int .u8 ((s.get! m.toNat).toNat)))):=propext Iff.rfl
theorem lenW_str {n b:Nat} {hz:Bool} {z:List AV} {s:ByteArray}:(lenW ⟨.str,n,b,hz,z⟩ (.str s) A=A (.int .i64 s.size)):=propext Iff.rfl
theorem lenW_sl {n b:Nat} {hz:Bool} {z:List AV} {e:TypeId} {rows:List (List AV)}:(lenW ⟨.slice e,n,b,hz,z⟩ (.sl rows) A=A (.int .i64 rows.length)):=propext Iff.rfl
theorem lenW_sref {n b:Nat} {hz:Bool} {z:List AV} {e:TypeId} {i off c:Nat}:(lenW ⟨.slice e,n,b,hz,z⟩ (.sref i off c) A=A (.int .i64 c)):=propext Iff.rfl
theorem lenW_nils {n b:Nat} {hz:Bool} {z:List AV} {e:TypeId}:(lenW ⟨.slice e,n,b,hz,z⟩ .nils A=A (.int .i64 0)):=propext Iff.rfl
theorem convW_int {n b n2 b2:Nat} {hz hz2:Bool} {z z2:List AV} {k1 k2 k3:IntKind} {m:Int}:(convW ⟨.int k1,n,b,hz,z⟩ ⟨.int k2,n2,b2,hz2,z2⟩ (.int k3 m) A=A (.int k2 (k2.wrap m))):=propext Iff.rfl
theorem convW_str {n b n2 b2:Nat} {hz hz2:Bool} {z z2:List AV} {s:ByteArray}:(convW ⟨.str,n,b,hz,z⟩ ⟨.str,n2,b2,hz2,z2⟩ (.str s) A=A (.str s)):=propext Iff.rfl
theorem buildW_struct {n b:Nat} {hz:Bool} {z:List AV} {fs:List (Nat × TypeId)} {parts:List (Nat × AV)}:(buildW P ⟨.struct fs,n,b,hz,z⟩ parts A=(hz=true∧(∀ p∈parts,storable p.2=true∧p.1<fs.length∧(tyOf P (fs.getD p.1 (0,0)).2).d ≠ .no∧(cellsOf p.2).length=(tyOf P (fs.getD p.1 (0,0)).2).size∧(fs.getD p.1 (0,0)).1+(cellsOf p.2).length≤z.length)∧(∀ f∈fs,(tyOf P f.2).d ≠ .no)∧A (.agg (parts.foldl (fun cs p=>laid cs (fs.getD p.1 (0,0)).1 (cellsOf p.2)) z)))):=propext Iff.rfl
theorem buildW_arr {n b:Nat} {hz:Bool} {z:List AV} {k:Nat} {e:TypeId} {parts:List (Nat × AV)}:(buildW P ⟨.arr k e,n,b,hz,z⟩ parts A=(hz=true∧(tyOf P e).d ≠ .no∧(∀ p∈parts,storable p.2=true∧(cellsOf p.2).length=(tyOf P e).size∧p.1*(tyOf P e).size+(cellsOf p.2).length≤z.length)∧A (.agg (parts.foldl (fun cs p=>laid cs (p.1*(tyOf P e).size) (cellsOf p.2)) z)))):=propext Iff.rfl
theorem indexW_arr {n b:Nat} {hz:Bool} {z:List AV} {len:Nat} {e:TypeId} {cs:List AV} {k:IntKind} {m:Int}:(indexW P ⟨.arr len e,n,b,hz,z⟩ (.agg cs) (.int k m) A=((tyOf P e).d ≠ .no∧((tyOf P e).isAgg=true∨(tyOf P e).size=1)∧0≤m∧m<len∧m.toNat*(tyOf P e).size+(tyOf P e).size≤cs.length∧A (ofCells (tyOf P e) ((cs.drop (m.toNat*(tyOf P e).size)).take (tyOf P e).size)))):=propext Iff.rfl
theorem litD_slice {n b:Nat} {hz:Bool} {z:List AV} {e:TypeId} {d:Nat} {len:Nat} {parts:List (Nat × AV)} {hp:List Ob}:(litD P ⟨.slice e,n,b,hz,z⟩ (some d) len parts hp A=(dead ⟨[],hp⟩ d∧(tyOf P e).d ≠ .no∧(tyOf P e).hz=true∧(tyOf P e).zero.length=(tyOf P e).size∧parts.map (·.1)=List.range len∧len*(tyOf P e).size≤16777216∧len≤16777216∧(∀ p∈parts,storable p.2=true∧(cellsOf p.2).length=(tyOf P e).size∧AV.pures (cellsOf p.2)=true)∧A (.sl (parts.map fun p=>cellsOf p.2)))):=propext Iff.rfl
theorem makeW_slice {n b:Nat} {hz:Bool} {z:List AV} {e:TypeId} {d:Nat} {k1 k2:IntKind} {m1 m2:Int} {A:AV→St→Prop}:(makeW P ⟨.slice e,n,b,hz,z⟩ (some d) (.int k1 m1) (.int k2 m2) s A=(m1=m2∧dead s d∧(tyOf P e).d ≠ .no∧(tyOf P e).hz=true∧(tyOf P e).zero.length=(tyOf P e).size∧0≤m1∧((tyOf P e).bytes:Int)*m1≤281474976710656∧m1≤9223372036854775807∧A (.sref d 0 m1.toNat) (s.seth d (.arr e (tyOf P e).size true (List.replicate m1.toNat (tyOf P e).zero))))):=propext Iff.rfl
theorem ev_tmp {e:List AV} {i:Nat}:ev e (.tmp i)=e.getD i .any:=id rfl
theorem ev_const {e:List AV} {v:Value}:ev e (.const v)=cstV v:=id rfl
theorem ev_global {e:List AV} {i:Nat}:ev e (.global i) = .gl i:=id rfl
theorem ev_func {e:List AV} {i:FuncId}:ev e (.func i) = .fn (.func i) [] []:=id rfl
theorem evo_none {e:List AV}:evo e none=none:=id rfl
theorem evo_some {e:List AV} {x:Operand}:evo e (some x)=some (ev e x):=id rfl
theorem cst_int {k:IntKind} {m:Int}:cstV (.int k m) = .int k m:=id rfl
theorem cst_bool {b:Bool}:cstV (.bool b) = .bool b:=id rfl
theorem cst_str {b:ByteArray}:cstV (.string b) = .str b:=id rfl
theorem cst_nils  : cstV (.slice none 0 0) = .nils:=id rfl
theorem cst_nilp  : cstV (.pointer none) = .nilp:=id rfl
theorem cst_nilif  : cstV .nilIface = .nilif:=id rfl
theorem cst_nilfn  : cstV .nilFunc = .nilfn:=id rfl
theorem cst_agg {cs:List Value}:cstV (.agg ⟨cs⟩) = .agg (cs.map cst1):=id rfl
theorem froz_any {i:Nat} {rows:List (List AV)}  : AV.froz i rows (.any)=(.any):=by simp only [AV.froz]
theorem froz_und {i:Nat} {rows:List (List AV)}  : AV.froz i rows (.und)=(.und):=by simp only [AV.froz]
theorem froz_int {i:Nat} {rows:List (List AV)} {k:IntKind} {m:Int}:AV.froz i rows (.int k m)=(.int k m):=by simp only [AV.froz]
theorem froz_bool {i:Nat} {rows:List (List AV)} {b:Bool}:AV.froz i rows (.bool b)=(.bool b):=by simp only [AV.froz]
theorem froz_str {i:Nat} {rows:List (List AV)} {b:ByteArray}:AV.froz i rows (.str b)=(.str b):=by simp only [AV.froz]
theorem froz_nils {i:Nat} {rows:List (List AV)}  : AV.froz i rows (.nils)=(.nils):=by simp only [AV.froz]
theorem froz_sl {i:Nat} {rows:List (List AV)} {l:List (List AV)}:AV.froz i rows (.sl l)=(.sl l):=by simp only [AV.froz]
theorem froz_ia {i:Nat} {rows:List (List AV)} {l:List AV} {o:Nat}:AV.froz i rows (.ia l o)=(.ia l o):=by simp only [AV.froz]
theorem froz_nilp {i:Nat} {rows:List (List AV)}  : AV.froz i rows (.nilp)=(.nilp):=by simp only [AV.froz]
theorem froz_nilif {i:Nat} {rows:List (List AV)}  : AV.froz i rows (.nilif)=(.nilif):=by simp only [AV.froz]
theorem froz_nilfn {i:Nat} {rows:List (List AV)}  : AV.froz i rows (.nilfn)=(.nilfn):=by simp only [AV.froz]
theorem froz_nilmp {i:Nat} {rows:List (List AV)}  : AV.froz i rows (.nilmp)=(.nilmp):=by simp only [AV.froz]
theorem froz_gl {i:Nat} {rows:List (List AV)} {g:Nat}:AV.froz i rows (.gl g)=(.gl g):=by simp only [AV.froz]
theorem froz_sref {i:Nat} {rows:List (List AV)} {j off n:Nat}:AV.froz i rows (.sref j off n)=(if j=i then .sl ((rows.drop off).take n) else .sref j off n):=by simp only [AV.froz]
theorem froz_ptr {i:Nat} {rows:List (List AV)} {j r off:Nat}:AV.froz i rows (.ptr j r off)=(if j=i then .ia (rows.getD r []) off else .ptr j r off):=by simp only [AV.froz]
theorem froz_agg {i:Nat} {rows:List (List AV)} {l:List AV}:AV.froz i rows (.agg l)=(.agg (AV.frozs i rows l)):=by simp only [AV.froz]
theorem froz_tup {i:Nat} {rows:List (List AV)} {l:List AV}:AV.froz i rows (.tup l)=(.tup (AV.frozs i rows l)):=by simp only [AV.froz]
theorem froz_fn {i:Nat} {rows:List (List AV)} {f:Fn} {l m:List AV}:AV.froz i rows (.fn f l m)=(.fn f (AV.frozs i rows l) (AV.frozs i rows m)):=by simp only [AV.froz]
theorem froz_ifc {i:Nat} {rows:List (List AV)} {t:TypeId} {x:AV}:AV.froz i rows (.ifc t x)=(.ifc t (AV.froz i rows x)):=by simp only [AV.froz]
theorem frozs_nil {i:Nat} {rows:List (List AV)}:AV.frozs i rows []=[]:=id rfl
theorem frozs_cons {i:Nat} {rows:List (List AV)} {x:AV} {l:List AV}:AV.frozs i rows (x::l)=AV.froz i rows x::AV.frozs i rows l:=by simp only [AV.frozs]
theorem froz_dead {i:Nat} {rows:List (List AV)}:Ob.froz i rows .dead = .dead:=id rfl
theorem froz_arr {i:Nat} {rows rs:List (List AV)} {T:TypeId} {k:Nat}:Ob.froz i rows (.arr T k true rs) = .arr T k true rs:=id rfl
end
def mutQ (P:Program) (rs:List ResultVar) (T:TypeId) (k:Nat) (R:AV→List (List AV)→Prop):Exit→St→Prop
 | .normal,s=>resW P s rs fun xs=>∃ rows',s.hp[0]?=some (.arr T k true rows')∧(asOne xs).flat=true∧R (asOne xs) rows'
 | .ret,s=>resW P s rs fun xs=>∃ rows',s.hp[0]?=some (.arr T k true rows')∧(asOne xs).flat=true∧R (asOne xs) rows'
 | _,_=>False
def AV.ren (i:Nat):AV→AV
 | .sref 0 off n => .sref i off n
 | x=>x
def AV.okR (x:AV):Prop:=x.pure=true∨∃ off n,x = .sref 0 off n
theorem ren_flat {x:AV} (h:x.flat=true) (i:Nat):x.ren i=x:=by
 unfold AV.ren
 split
 ·simp [AV.flat] at h
 ·rfl
theorem ren_pure {x:AV} (h:x.pure=true) (i:Nat):x.ren i=x:=by
 unfold AV.ren
 split
 ·simp [AV.pure] at h
 ·rfl
theorem flats_pure:∀ {l:List AV},(l.all fun x=>match x with | .int _ _ | .bool _ | .str _ | .und | .nilp | .nilif | .nilfn | .nilmp | .nils=>true | _=>false)=true→AV.pures l=true
 | [],_=>rfl
 | x::l,h=>by
  simp only [List.all_cons,Bool.and_eq_true] at h
  rw [AV.pures,flats_pure h.2,Bool.and_true]
  have:=h.1
  cases x <;> first | rfl | simp at this
theorem flat_pure {x:AV} (h:x.flat=true):x.pure=true:=by
 cases x with
 | tup l=>exact flats_pure h
 | _=>first | rfl | simp [AV.flat] at h
def mutQ2 (P:Program) (rs:List ResultVar) (T:TypeId) (k:Nat) (R:AV→List (List AV)→Prop):Exit→St→Prop
 | .normal,s=>resW P s rs fun xs=>∃ rows',s.hp[0]?=some (.arr T k true rows')∧(asOne xs).okR∧R (asOne xs) rows'
 | .ret,s=>resW P s rs fun xs=>∃ rows',s.hp[0]?=some (.arr T k true rows')∧(asOne xs).okR∧R (asOne xs) rows'
 | _,_=>False
theorem call_mut2 {P:Program} {pins:List Nat} {g:FuncId} {fn:Func} {c:Code} (hf:P.funcs[g]?=some fn) (hb:fn.body=some c) {rs:List ResultVar} (hrs:fn.results.toList=rs) {nt:Nat} (hn:fn.ntmps=nt) (hn0:0<nt)
  {s:St} {i off n:Nat} {rest:List AV} {T:TypeId} {k:Nat} {rows:List (List AV)} (hi:s.hp[i]?=some (.arr T k true rows)) (hpure:AV.pures rest=true) {R:AV→List (List AV)→Prop}
  (h:W P [0] c (mutQ2 P rs T k R) ⟨.sref 0 off n::AV.datas rest++List.replicate (nt-(rest.length+1)) .und,(List.replicate nt .dead).set 0 (.arr T k true rows)⟩)
  {K:AV→St→Prop} (hk:∀ r rows',R r rows'→K (r.ren i) (s.seth i (.arr T k true rows'))):CallOk P pins g (.sref i off n::rest) s K:=by
 subst hrs;subst hn
 intro fr ρ a w vals hp hr hv
 have hil:i<s.hp.length:=(List.getElem?_eq_some_iff.1 hi).1
 have hob:=hr.heap i
 rw [show s.hp.getD i .dead = .arr T k true rows by simp [List.getD_eq_getElem?_getD,hi]] at hob
 simp only [Rps] at hv
 obtain ⟨v0,vs,rfl,hv0,hvs⟩:=hv
 have hvs':=Rps.data rest (Rps.pure noPl rest hpure hvs)
 obtain ⟨p,hpl⟩:∃ p,ρ i=some p:=by
  cases hpi:ρ i with
  | none=>rw [hpi] at hob;exact hob.elim
  | some p=>exact ⟨p,rfl⟩
 let M:Nat→Prop:=fun b=>p.block=some b
 let ρ0:Pl:=fun j=>if j=0 then some p else none
 let fr':Fr:=⟨w.heap.size,w,fun b=>Av fr.F ρ b∧¬ M b,M,[0],ρ0,fun _ h=>h.2⟩
 have hav:∀ b,Av fr'.F ρ0 b↔Av fr.F ρ b:=by
  intro b
  constructor
  ·rintro (h1 | ⟨j,q,h1,h2⟩)
   ·exact h1.1
   ·have:j=0:=by
     by_cases hj:j=0
     ·exact hj
     ·simp [ρ0,hj] at h1
    subst this
    simp [ρ0] at h1
    subst h1
    exact .inr ⟨i,p,hpl,h2⟩
  ·intro h1
   by_cases hM:M b
   ·exact .inr ⟨0,p,by simp [ρ0],hM⟩
   ·exact .inl ⟨h1,hM⟩
 have hMlt:∀ b,M b→b<w.heap.size:=fun b hb=>hr.lt hpl hb
 have hvl:=hvs.length
 refine calls_of_wp hf hb ?_
 have hlatF:Later w (Av fr.F ρ) noPl w (Av fr'.F ρ0) noPl:=⟨Nat.le_refl _,fun b _ hb=>(hav b).1 hb,fun _ _ _=>rfl,fun _ _ h=>h⟩
 have hob0:HRo w (Av fr'.F ρ0) ρ0 (.arr T k true rows) (some p):=by
  rw [hpl] at hob
  cases p with
  | nil=>exact hob
  | mapb b=>exact hob.elim
  | blk b s' cap len =>
   obtain ⟨h1,h2,vss,rst,h3,h4,h5⟩:=hob
   exact ⟨h1,h2,vss,rst,h3,RpR.later _ hlatF h4,h5⟩
 have hrep:Rep fr' ρ0 ⟨.sref 0 off n::AV.datas rest++List.replicate (fn.ntmps-(rest.length+1)) .und,(List.replicate fn.ntmps .dead).set 0 (.arr T k true rows)⟩ { tmps:=(v0::vs).toArray++Array.replicate (fn.ntmps-(v0::vs).toArray.size) undef,defers:=[] } w:=by
  refine { keep:=⟨rfl,rfl,rfl,Nat.le_refl _,fun _ _ _=>rfl⟩,base:=Nat.le_refl _,defers:=rfl,heap:=fun j=>?_,inj:=?_,mine:=?_,fF:=?_,pin:=?_,env:=?_ }
  ·by_cases hj:j=0
   ·subst hj
    rw [show ((List.replicate fn.ntmps Ob.dead).set 0 (.arr T k true rows)).getD 0 .dead = .arr T k true rows by simp [List.getD_eq_getElem?_getD,hn0]]
    simpa [ρ0] using hob0
   ·rw [show ((List.replicate fn.ntmps Ob.dead).set 0 (.arr T k true rows)).getD j .dead = .dead by
     rw [List.getD_eq_getElem?_getD,List.getElem?_set_ne (by omega),List.getElem?_replicate];split <;> rfl]
    show ρ0 j=none
    simp [ρ0,hj]
  ·intro j l q r b h1 h2 _ _
   have e1:j=0:=by
    by_cases hj:j=0
    ·exact hj
    ·simp [ρ0,hj] at h1
   have e2:l=0:=by
    by_cases hj:l=0
    ·exact hj
    ·simp [ρ0,hj] at h2
   rw [e1,e2]
  ·intro j q b h1 h2
   have e1:j=0:=by
    by_cases hj:j=0
    ·exact hj
    ·simp [ρ0,hj] at h1
   subst e1
   simp [ρ0] at h1
   subst h1
   exact .inr ⟨by simp [fr'],h2⟩
  ·intro b hb
   rcases hb.1 with h1 | ⟨j,q,h1,h2⟩
   ·exact Nat.lt_of_lt_of_le (hr.fF b h1) hr.base
   ·exact hr.lt h1 h2
  ·intro j hj
   simp [fr'] at hj
   subst hj
   exact ⟨rfl,by simp [ρ0]⟩
  ·show Rps w (Av fr'.F ρ0) ρ0 _ _
   have h1:((v0::vs).toArray++Array.replicate (fn.ntmps-(v0::vs).toArray.size) undef).toList=v0::vs++List.replicate (fn.ntmps-(rest.length+1)) undef:=by
    simp [hvl]
   rw [h1]
   have hv0':Rp w (Av fr'.F ρ0) ρ0 (.sref 0 off n) v0:=by
    simp only [Rp] at hv0 ⊢
    rw [hpl] at hv0
    simpa [ρ0] using hv0
   have hvs2:Rps w (Av fr'.F ρ0) ρ0 (AV.datas rest) vs:=Rps.pure' (hvs'.later _ hlatF) ρ0
   refine Rps.append (l := .sref 0 off n::AV.datas rest) (by simp only [Rps];exact ⟨v0,vs,rfl,hv0',hvs2⟩) (Rps.mk (by simp) fun j x u hx hu=>?_)
   rw [List.getElem?_replicate] at hx hu
   split at hx
   ·rename_i hj;rw [if_pos hj] at hu;cases hx;cases hu;simp only [Rp]
   ·cases hx
 refine Code.wp_mono (fun e a' w' he=>?_) (h fr' ρ0 _ w rfl hrep)
 obtain ⟨s',ρ',hq,hr'⟩:=he
 have fin:resW P s' fn.results.toList (fun xs=>∃ rows',s'.hp[0]?=some (.arr T k true rows')∧(asOne xs).okR∧R (asOne xs) rows')→a'.defers=[]∧∃ v,(results fn a'.tmps).run P w' = .ok v w' ∧
   ∃ v2 x s2 ρ2,Ending.returned v = .returned v2∧K x s2∧Rep fr ρ2 s2 a w'∧Rp w' (Av fr.F ρ2) ρ2 x v2:=by
  intro hq
  obtain ⟨xs,v,⟨rows',h1,h2,h3⟩,h4,h5⟩:=results_sound hr' fn hq
  have hp0:ρ' 0=some p:=by
   have:=(hr'.pin 0 (by simp [fr'])).1
   simpa [fr',ρ0] using this
  have hav':∀ b,Av fr.F ρ b→Av fr'.F ρ' b:=by
   intro b hb
   by_cases hM:M b
   ·exact .inr ⟨0,p,hp0,hM⟩
   ·exact .inl ⟨hb,hM⟩
  refine ⟨hr'.defers,v,h4,v,(asOne xs).ren i,s.seth i (.arr T k true rows'),ρ,rfl,hk _ _ h3,?_,?_⟩;rotate_left
  ·rcases h2 with h2 | ⟨off',n',h2⟩
   ·rw [ren_pure h2]
    exact Rp.pure ρ _ h2 ((Rp.pure noPl _ h2 h5).later (A':=Av fr.F ρ) (ρ':=noPl) _ ⟨Nat.le_refl _,fun b _ hb=>hav' b hb,fun _ _ _=>rfl,fun _ _ h=>h⟩)
   ·rw [h2] at h5 ⊢
    simp only [AV.ren,Rp] at h5 ⊢
    rw [hp0] at h5
    rw [hpl]
    exact h5
  have hsz:w.heap.size≤w'.heap.size:=hr'.keep.size
  have hblk:∀ b,b<w.heap.size→¬ M b→w'.heap[b]?=w.heap[b]?:=fun b h1 h2=>hr'.keep.block b h1 h2
  have hMA:∀ b,M b→Av fr.F ρ b:=fun b hb => .inr ⟨i,p,hpl,hb⟩
  have hlat:Later w (Av fr.F ρ) ρ w' (Av fr.F ρ) ρ:=⟨hsz,fun _ _ h=>h,fun b h1 h2=>hblk b h1 fun hM=>h2 (hMA b hM),fun _ _ h=>h⟩
  have ho':=hr'.heap 0
  rw [show s'.hp.getD 0 .dead = .arr T k true rows' by simp [List.getD_eq_getElem?_getD,h1],hp0] at ho'
  refine { keep:=⟨hr'.keep.os.trans hr.keep.os,hr'.keep.tape.trans hr.keep.tape,hr'.keep.output.trans hr.keep.output,Nat.le_trans hr.keep.size hsz,fun b hb hm=>?_⟩,base:=Nat.le_trans hr.base hsz,defers:=hr.defers,heap:=fun j=>?_,inj:=hr.inj,mine:=hr.mine,fF:=hr.fF,pin:=hr.pin,env:=hr.env.later _ hlat }
  ·rw [hblk b (Nat.lt_of_lt_of_le hb hr.base)]
   ·exact hr.keep.block b hb hm
   ·intro hM
    rcases hr.mine i p b hpl hM with h6 | h6
    ·omega
    ·exact hm h6.2
  ·by_cases hj:j=i
   ·subst hj
    rw [show (s.seth j (.arr T k true rows')).hp.getD j .dead = .arr T k true rows' by simp [St.seth,List.getD_eq_getElem?_getD,hil],hpl]
    cases p with
    | nil=>exact ho'
    | mapb b=>exact ho'.elim
    | blk b s2 cap len =>
     obtain ⟨g1,g2,vss,rst,g3,g4,g5⟩:=ho'
     refine ⟨g1,g2,vss,rst,g3,RpR.later (ρ:=noPl) _ ⟨Nat.le_refl _,fun b _ hb=>hav' b hb,fun _ _ _=>rfl,fun _ _ h=>h⟩ g4,g5⟩
   ·rw [show (s.seth i (.arr T k true rows')).hp.getD j .dead=s.hp.getD j .dead by
     simp only [St.seth,List.getD_eq_getElem?_getD,List.getElem?_set_ne (Ne.symm hj)]]
    refine (hr.heap j).later hlat fun q b hq hqb=>hblk b (hr.lt hq hqb) fun hM=>?_
    exact hj (hr.inj j i q p b hq hpl hqb hM)
 cases e with
 | normal=>exact fin hq
 | ret=>exact fin hq
 | _=>exact hq.elim
theorem resW_mono {P:Program} {s:St}:∀ {rs:List ResultVar} {K K':List AV→Prop},resW P s rs K→(∀ xs,K xs→K' xs)→resW P s rs K'
 | [],K,K',h,hk=>by simp only [resW] at h ⊢;exact hk _ h
 | r::rs,K,K',h,hk=>by
  simp only [resW] at h ⊢
  cases r with
  | tmp t=>simp only [resV] at h ⊢;exact resW_mono h fun xs=>hk _
  | cell ad t =>
   simp only [resV] at h ⊢
   refine ⟨h.1,h.2.1,?_⟩
   have h3:=h.2.2
   generalize s.env.getD ad .any=x at h3 ⊢
   unfold loadW at h3 ⊢
   split at h3
   ·exact ⟨h3.1,resW_mono h3.2 fun xs=>hk _⟩
   ·split at h3
    ·rename_i heq;simp only [heq] at *;exact ⟨h3.1,h3.2.1,resW_mono h3.2.2 fun xs=>hk _⟩
    ·exact h3.elim
   ·exact h3.elim
theorem call_mut {P:Program} {pins:List Nat} {g:FuncId} {fn:Func} {c:Code} (hf:P.funcs[g]?=some fn) (hb:fn.body=some c) {rs:List ResultVar} (hrs:fn.results.toList=rs) {nt:Nat} (hn:fn.ntmps=nt) (hn0:0<nt)
  {s:St} {i off n:Nat} {rest:List AV} {T:TypeId} {k:Nat} {rows:List (List AV)} (hi:s.hp[i]?=some (.arr T k true rows)) (hpure:AV.pures rest=true) {R:AV→List (List AV)→Prop}
  (h:W P [0] c (mutQ P rs T k R) ⟨.sref 0 off n::AV.datas rest++List.replicate (nt-(rest.length+1)) .und,(List.replicate nt .dead).set 0 (.arr T k true rows)⟩)
  {K:AV→St→Prop} (hk:∀ r rows',R r rows'→K r (s.seth i (.arr T k true rows'))):CallOk P pins g (.sref i off n::rest) s K:=by
 have hres:∀ s',resW P s' rs (fun xs=>∃ rows',s'.hp[0]?=some (.arr T k true rows')∧(asOne xs).flat=true∧R (asOne xs) rows')→resW P s' rs (fun xs=>∃ rows',s'.hp[0]?=some (.arr T k true rows')∧(asOne xs).okR∧((asOne xs).flat=true∧R (asOne xs) rows')) :=
  fun s' h=>resW_mono h fun xs ⟨rows',h1,h2,h3⟩=>⟨rows',h1,.inl (flat_pure h2),h2,h3⟩
 refine call_mut2 (R:=fun r rows'=>r.flat=true∧R r rows') hf hb hrs hn hn0 hi hpure (h.mono fun e s' he=>?_) fun r rows' hr=>?_
 ·cases e with
  | normal=>exact hres s' he
  | ret=>exact hres s' he
  | _=>exact he.elim
 ·rw [ren_flat hr.1]
  exact hk r rows' hr.2
end Go.Proofs.YtjmpajgjaefcjaaGreat.Vm
namespace Go.Proofs.YtjmpajgjaefcjaaGreat.Vm
open Go Go.RowKit
def NewA (base:Nat) (w:World) (F:Nat→Prop) (T:TypeId) (k:Nat) (rows:List (List AV)) (v:Value):Prop :=
 (v = .slice none 0 0∧rows=[])∨∃ b cap,base≤b∧v = .slice (some ⟨b,0,none⟩) rows.length cap∧Holds w (fun c=>F c∨c=b) noPl T rows b k cap
def New (P:Program) (g:FuncId) (args:List AV) (T:TypeId) (k:Nat) (R:List (List AV)→Prop):Prop :=
 ∀ (w:World) (vals:List Value) (F:Nat→Prop),(∀ k,F k→k<w.heap.size)→Rps w F noPl args vals →
  Calls P g vals.toArray w fun e w'=>∃ v rows,e = .returned v∧R rows∧Below w.heap.size w w'∧NewA w.heap.size w' F T k rows v
def newK (T:TypeId) (k:Nat) (R:List (List AV)→Prop) (hp:List Ob):AV→Prop
 | .nils=>R []
 | .sref i off n=>∃ rows,off=0∧n=rows.length∧hp[i]?=some (.arr T k true rows)∧R rows
 | _=>False
def newQ (P:Program) (rs:List ResultVar) (T:TypeId) (k:Nat) (R:List (List AV)→Prop):Exit→St→Prop
 | .normal,s=>resW P s rs fun xs=>newK T k R s.hp (asOne xs)
 | .ret,s=>resW P s rs fun xs=>newK T k R s.hp (asOne xs)
 | _,_=>False
theorem new_of_W {P:Program} {g:FuncId} {fn:Func} {c:Code} {args:List AV} {T:TypeId} {k:Nat} {R:List (List AV)→Prop} (hf:P.funcs[g]?=some fn) (hb:fn.body=some c) {rs:List ResultVar} (hrs:fn.results.toList=rs) {nt:Nat} (hn:fn.ntmps=nt)
  (h:W P [] c (newQ P rs T k R) ⟨args++List.replicate (nt-args.length) .und,List.replicate nt .dead⟩):New P g args T k R:=by
 subst hrs;subst hn
 intro w vals F hF hv
 have hlen:=hv.length
 refine calls_of_wp hf hb ?_
 let fr:Fr:=⟨w.heap.size,w,F,fun _=>False,[],noPl,fun _ _ h=>h⟩
 have hA:Av F noPl=F:=by
  funext k
  simp [Av,noPl]
 have hrep:Rep fr noPl ⟨args++List.replicate (fn.ntmps-args.length) .und,List.replicate fn.ntmps .dead⟩ { tmps:=vals.toArray++Array.replicate (fn.ntmps-vals.toArray.size) undef,defers:=[] } w:=by
  refine { keep:=⟨rfl,rfl,rfl,Nat.le_refl _,fun _ _ _=>rfl⟩,base:=Nat.le_refl _,defers:=rfl,heap:=fun i=>?_,inj:=(fun i j p q b hi=>by cases hi),mine:=(fun i p b hi=>by cases hi),fF:=hF,pin:=(fun i hi=>by cases hi),env:=?_ }
  ·show HRo _ _ _ ((List.replicate fn.ntmps Ob.dead).getD i .dead) _
   rw [show (List.replicate fn.ntmps Ob.dead).getD i .dead = .dead by
    rw [List.getD_eq_getElem?_getD,List.getElem?_replicate];split <;> rfl]
   rfl
  ·show Rps w (Av F noPl) noPl _ _
   rw [hA]
   have h1:(vals.toArray++Array.replicate (fn.ntmps-vals.toArray.size) undef).toList=vals++List.replicate (fn.ntmps-args.length) undef:=by
    simp [hlen]
   rw [h1]
   refine hv.append (Rps.mk (by simp) fun i x v hx hv=>?_)
   rw [List.getElem?_replicate] at hx hv
   split at hx
   ·rename_i hi;rw [if_pos hi] at hv;cases hx;cases hv;simp only [Rp]
   ·cases hx
 refine Code.wp_mono (fun e a' w' he=>?_) (h fr noPl _ w rfl hrep)
 obtain ⟨s,ρ,hq,hr⟩:=he
 have fin:resW P s fn.results.toList (fun xs=>newK T k R s.hp (asOne xs))→a'.defers=[]∧∃ v,(results fn a'.tmps).run P w' = .ok v w'∧∃ v2 rows,Ending.returned v = .returned v2∧R rows∧Below w.heap.size w w'∧NewA w.heap.size w' F T k rows v2:=by
  intro hk
  obtain ⟨xs,v,h1,h2,h3⟩:=results_sound hr fn hk
  have hbel:Below w.heap.size w w':=⟨hr.keep.os,hr.keep.tape,hr.keep.output,hr.keep.size,fun k hk=>hr.keep.block k hk (fun h=>h)⟩
  refine ⟨hr.defers,v,h2,?_⟩
  cases hx:asOne xs with
  | nils =>
   rw [hx] at h1 h3
   simp only [Rp] at h3
   exact ⟨v,[],rfl,h1,hbel,.inl ⟨h3,rfl⟩⟩
  | sref i off n =>
   rw [hx] at h1 h3
   obtain ⟨rows,rfl,rfl,hi,hR⟩:=h1
   have ho:=hr.heap i
   rw [show s.hp.getD i .dead = .arr T k true rows by simp [List.getD_eq_getElem?_getD,hi]] at ho
   simp only [Rp] at h3
   rcases h3 with ⟨g1,g2,g3,g4⟩ | ⟨b,s',cap,len,x,g1,g2,g3,g4⟩
   ·exact ⟨v,rows,rfl,hR,hbel,.inl ⟨g4,List.eq_nil_of_length_eq_zero g3⟩⟩
   ·rw [g1] at ho
    obtain ⟨e1,e2,vss,rest,e3,e4,e5⟩:=ho
    subst e1
    have hx0:=g4 (.inr trivial)
    rw [Nat.zero_mul] at hx0
    subst hx0
    refine ⟨v,rows,rfl,hR,hbel,.inr ⟨b,cap,?_,by rw [g3,Nat.sub_zero],vss,rest,e3,?_,e5⟩⟩
    ·rcases hr.mine i _ b g1 rfl with h4 | h4
     ·exact h4
     ·exact absurd h4.1 (by simp [fr])
    ·exact RpR.later (ρ:=noPl) _ ⟨Nat.le_refl _,fun c _ hc=>by
      rcases hc with hc | rfl
      ·exact .inl hc
      ·exact .inr ⟨i,_,g1,rfl⟩,fun _ _ _=>rfl,fun _ _ h=>h⟩ e4
  | _=>rw [hx] at h1;exact h1.elim
 cases e with
 | normal=>exact fin hq
 | ret=>exact fin hq
 | _=>exact hq.elim
theorem Rep.adopt {fr:Fr} {ρ:Pl} {s:St} {a:Act} {w w':World} (h0:Rep fr ρ s a w) (hbel:Below w.heap.size w w') {d:Nat} (hd:s.hp[d]?=some .dead) {T:TypeId} {k:Nat} {rows:List (List AV)} {v:Value}
  (hn:NewA w.heap.size w' (Av fr.F ρ) T k rows v):∃ ρ',Rep fr ρ' ⟨s.env,s.hp.set d (.arr T k true rows)⟩ a w'∧Rp w' (Av fr.F ρ') ρ' (.sref d 0 rows.length) v:=by
 obtain ⟨h,hlat0⟩:=h0.below hbel
 have hdl:d<s.hp.length:=(List.getElem?_eq_some_iff.1 hd).1
 have hρd:ρ d=none:=by
  have:=h.heap d
  rw [show s.hp.getD d .dead = .dead by simp [List.getD_eq_getElem?_getD,hd]] at this
  exact this
 rcases hn with ⟨rfl,rfl⟩ | ⟨b,cap,hb,rfl,vss,rest,e1,e2,e3,e4,e5,e6⟩
 ·have hav:∀ k',Av fr.F (ρ.put d (some .nil)) k'→Av fr.F ρ k':=by
   rintro k' (h1 | ⟨i,p,h1,h2⟩)
   ·exact .inl h1
   ·by_cases hi:i=d
    ·subst hi;rw [Pl.put_same] at h1;cases h1;simp [Place.block] at h2
    ·rw [Pl.put_ne _ _ hi] at h1;exact .inr ⟨i,p,h1,h2⟩
  have hlat:Later w' (Av fr.F ρ) ρ w' (Av fr.F (ρ.put d (some .nil))) (ρ.put d (some .nil)) :=
   ⟨Nat.le_refl _,fun k' _=>hav k',fun _ _ _=>rfl,fun i p hp=>by
    by_cases hi:i=d
    ·subst hi;rw [hρd] at hp;cases hp
    ·rw [Pl.put_ne _ _ hi];exact hp⟩
  refine ⟨ρ.put d (some .nil),{ keep:=h.keep,base:=h.base,defers:=h.defers,heap:=fun i=>?_,inj:=?_,mine:=?_,fF:=h.fF,pin:=fun i hi=>?_,env:=h.env.later _ hlat },?_⟩
  ·by_cases hi:i=d
   ·subst hi
    rw [getD_set_same _ _ _ _ hdl,Pl.put_same]
    rfl
   ·show HRo _ _ _ ((s.hp.set d (.arr T k true [])).getD i .dead) _
    rw [getD_set_other _ _ _ _ _ hi,Pl.put_ne _ _ hi]
    exact (h.heap i).later hlat fun q b hq hb=>rfl
  ·intro i j p q b hi hj hp hq
   by_cases hid:i=d
   ·subst hid;rw [Pl.put_same] at hi;cases hi;simp [Place.block] at hp
   ·by_cases hjd:j=d
    ·subst hjd;rw [Pl.put_same] at hj;cases hj;simp [Place.block] at hq
    ·rw [Pl.put_ne _ _ hid] at hi;rw [Pl.put_ne _ _ hjd] at hj;exact h.inj i j p q b hi hj hp hq
  ·intro i p b hi hp
   by_cases hid:i=d
   ·subst hid;rw [Pl.put_same] at hi;cases hi;simp [Place.block] at hp
   ·rw [Pl.put_ne _ _ hid] at hi;exact h.mine i p b hi hp
  ·by_cases hid:i=d
   ·subst hid;exact absurd hρd (h.pin i hi).2
   ·rw [Pl.put_ne _ _ hid];exact h.pin i hi
  ·simp only [Rp,Pl.put_same]
   exact .inl ⟨trivial,trivial,rfl,trivial⟩
 ·let p0:Place := .blk b k cap rows.length
  have hbw:b<w'.heap.size:=(Array.getElem?_eq_some_iff.1 e1).1
  have hnew:∀ i q c,ρ i=some q→q.block=some c→c<w.heap.size:=fun i q c hq hc=>h0.lt hq hc
  have hav:∀ k',k'<w'.heap.size→k'≠b→Av fr.F (ρ.put d (some p0)) k'→Av fr.F ρ k':=by
   rintro k' _ hkb (h1 | ⟨i,p,h1,h2⟩)
   ·exact .inl h1
   ·by_cases hi:i=d
    ·subst hi;rw [Pl.put_same] at h1;cases h1;simp [Place.block,p0] at h2;omega
    ·rw [Pl.put_ne _ _ hi] at h1;exact .inr ⟨i,p,h1,h2⟩
  have hlat:Later w (Av fr.F ρ) ρ w' (Av fr.F (ρ.put d (some p0))) (ρ.put d (some p0)) :=
   ⟨hbel.size,fun k' hk'=>hav k' (Nat.lt_of_lt_of_le hk' hbel.size) (by omega),fun k' hk' _=>hbel.block k' hk',fun i p hp=>by
    by_cases hi:i=d
    ·subst hi;rw [hρd] at hp;cases hp
    ·rw [Pl.put_ne _ _ hi];exact hp⟩
  refine ⟨ρ.put d (some p0),{ keep:=h.keep,base:=h.base,defers:=h.defers,heap:=fun i=>?_,inj:=?_,mine:=?_,fF:=h.fF,pin:=fun i hi=>?_,env:=h0.env.later _ hlat },?_⟩
  ·by_cases hi:i=d
   ·subst hi
    rw [getD_set_same _ _ _ _ hdl,Pl.put_same]
    refine ⟨rfl,rfl,vss,rest,e1,RpR.later (ρ:=noPl) _ ⟨Nat.le_refl _,fun c hc hc2=>?_,fun _ _ _=>rfl,fun _ _ h=>h⟩ e2,e3,e4,e5,e6⟩
    by_cases hcb:c=b
    ·exact .inr hcb
    ·exact .inl (hav c hc hcb hc2)
   ·show HRo _ _ _ ((s.hp.set d (.arr T k true rows)).getD i .dead) _
    rw [getD_set_other _ _ _ _ _ hi,Pl.put_ne _ _ hi]
    exact (h0.heap i).later hlat fun q c hq hc=>hbel.block c (h0.lt hq hc)
  ·intro i j p q c hi hj hp hq
   by_cases hid:i=d
   ·by_cases hjd:j=d
    ·rw [hid,hjd]
    ·subst hid
     rw [Pl.put_same] at hi
     cases hi
     rw [Pl.put_ne _ _ hjd] at hj
     simp [Place.block,p0] at hp
     have:=hnew _ _ _ hj hq
     omega
   ·rw [Pl.put_ne _ _ hid] at hi
    by_cases hjd:j=d
    ·subst hjd
     rw [Pl.put_same] at hj
     cases hj
     simp [Place.block,p0] at hq
     have:=hnew _ _ _ hi hp
     omega
    ·rw [Pl.put_ne _ _ hjd] at hj
     exact h.inj i j p q c hi hj hp hq
  ·intro i p c hi hp
   by_cases hid:i=d
   ·subst hid
    rw [Pl.put_same] at hi
    cases hi
    simp [Place.block,p0] at hp
    subst hp
    exact .inl (Nat.le_trans h0.base hb)
   ·rw [Pl.put_ne _ _ hid] at hi
    exact h.mine i p c hi hp
  ·by_cases hid:i=d
   ·subst hid;exact absurd hρd (h.pin i hi).2
   ·rw [Pl.put_ne _ _ hid];exact h.pin i hi
  ·simp only [Rp,Pl.put_same]
   exact .inr ⟨b,k,cap,rows.length,0,rfl,by omega,by simp,fun _=>by simp⟩
theorem call_new {P:Program} {pins:List Nat} {g:FuncId} {avs:List AV} {s:St} {K:AV→St→Prop} {T:TypeId} {k:Nat} {R:List (List AV)→Prop} (d:Nat) (hd:s.hp[d]?=some .dead) (ha:AV.pures avs=true) (hnew:New P g (AV.datas avs) T k R)
  (hk:∀ rows,R rows→K (.sref d 0 rows.length) (s.seth d (.arr T k true rows))):CallOk P pins g avs s K:=by
 intro fr ρ a w vals hp hr hv
 refine (hnew w vals (Av fr.F ρ) ?_ (Rps.data avs (Rps.pure noPl avs ha hv))).mono fun e w' he=>?_
 ·rintro k (hk | ⟨i,p,h1,h2⟩)
  ·exact Nat.lt_of_lt_of_le (hr.fF k hk) hr.base
  ·exact hr.lt h1 h2
 obtain ⟨v,rows,h1,h2,h3,h4⟩:=he
 obtain ⟨ρ',h5,h6⟩:=hr.adopt h3 hd h4
 exact ⟨v,_,_,ρ',h1,hk rows h2,h5,h6⟩
theorem New.pure {P:Program} {g:FuncId} {args:List AV} {T:TypeId} {k:Nat} {R:List (List AV)→Prop} (h:New P g args T k R):Pure P g args (fun r=>∃ rows,R rows∧r = .sl rows):=by
 intro w vals F hF hv
 refine (h w vals F hF hv).mono fun e w' he=>?_
 obtain ⟨v,rows,h1,h2,h3,h4⟩:=he
 refine ⟨v,.sl rows,h1,⟨rows,h2,rfl⟩,h3,?_⟩
 simp only [Rp]
 rcases h4 with ⟨rfl,rfl⟩ | ⟨b,cap,hb,rfl,vss,rest,e1,e2,e3,e4,e5,e6⟩
 ·exact ⟨none,0,by simp,by simp,by simp [maxLen],.inl rfl⟩
 ·refine ⟨_,cap,rfl,e5,e6,.inr ⟨b,0,vss,rfl,fun hFb=>?_,(Array.getElem?_eq_some_iff.1 e1).1,?_,RpR.later (ρ:=noPl) _ ⟨Nat.le_refl _,fun c _ hc => .inl hc,fun _ _ _=>rfl,fun _ _ h=>h⟩ e2⟩⟩
  ·have:=hF b hFb
   omega
  ·intro j u hj
   have h5:=(List.getElem?_eq_some_iff.1 hj).1
   simp only [World.cell?,Nat.zero_add]
   rw [e1]
   simp [List.getElem?_append_left h5,hj]
def Mut (P:Program) (g:FuncId) (T:TypeId) (k:Nat) (rows:List (List AV)) (off n:Nat) (rest:List AV) (R:AV→List (List AV)→Prop):Prop :=
 ∃ fn c,P.funcs[g]?=some fn∧fn.body=some c∧0<fn.ntmps ∧
  W P [0] c (mutQ P fn.results.toList T k R) ⟨.sref 0 off n::AV.datas rest++List.replicate (fn.ntmps-(rest.length+1)) .und,(List.replicate fn.ntmps .dead).set 0 (.arr T k true rows)⟩
theorem mut_of_W {P:Program} {g:FuncId} {fn:Func} {c:Code} {T:TypeId} {k:Nat} {rows:List (List AV)} {off n:Nat} {rest:List AV} {R:AV→List (List AV)→Prop} (hf:P.funcs[g]?=some fn) (hb:fn.body=some c) {rs:List ResultVar} (hrs:fn.results.toList=rs) {nt:Nat} (hn:fn.ntmps=nt) (hn0:0<nt)
  (h:W P [0] c (mutQ P rs T k R) ⟨.sref 0 off n::AV.datas rest++List.replicate (nt-(rest.length+1)) .und,(List.replicate nt .dead).set 0 (.arr T k true rows)⟩):Mut P g T k rows off n rest R:=by
 subst hrs;subst hn
 exact ⟨fn,c,hf,hb,hn0,h⟩
theorem call_mutC {P:Program} {pins:List Nat} {g:FuncId} {s:St} {i off n:Nat} {rest:List AV} {T:TypeId} {k:Nat} {rows:List (List AV)} {R:AV→List (List AV)→Prop} (hm:Mut P g T k rows off n rest R) (hi:s.hp[i]?=some (.arr T k true rows)) (hpure:AV.pures rest=true)
  {K:AV→St→Prop} (hk:∀ r rows',R r rows'→K r (s.seth i (.arr T k true rows'))):CallOk P pins g (.sref i off n::rest) s K:=by
 obtain ⟨fn,c,hf,hb,hn0,h⟩:=hm
 exact call_mut hf hb rfl rfl hn0 hi hpure h hk
def live (hp:List Ob) (i:Nat):Bool:=match hp.getD i .dead with | .dead=>false | _=>true
mutual
def AV.named (hp:List Ob):AV→Bool
 | .sref j _ _=>live hp j
 | .ptr j _ _=>live hp j
 | .mp j=>live hp j
 | .it j=>live hp j
 | .agg cs=>AV.nameds hp cs
 | .tup cs=>AV.nameds hp cs
 | .fn _ fs cs=>AV.nameds hp fs&&AV.nameds hp cs
 | .ifc _ x=>AV.named hp x
 | _=>true
def AV.nameds (hp:List Ob):List AV→Bool
 | []=>true
 | x::xs=>AV.named hp x&&AV.nameds hp xs
end
structure Fewer (hp:List Ob) (w:World) (A:Nat→Prop) (ρ:Pl) (A':Nat→Prop) (ρ':Pl):Prop where
 av:∀ k,A' k→A k
 pl:∀ j,live hp j=true→ρ' j=ρ j
theorem Fewer.later {hp:List Ob} {w:World} {A:Nat→Prop} {ρ:Pl} {A':Nat→Prop} {ρ':Pl} (h:Fewer hp w A ρ A' ρ'):Later w A noPl w A' noPl :=
 ⟨Nat.le_refl _,fun k _ hk=>h.av k hk,fun _ _ _=>rfl,fun _ _ h=>by cases h⟩
mutual
theorem Rp.named {hp:List Ob} {w:World} {A A':Nat→Prop} {ρ ρ':Pl} (hl:Fewer hp w A ρ A' ρ'):∀ (x:AV) {v:Value},x.named hp=true→Rp w A ρ x v→Rp w A' ρ' x v
 | .any,_,_,h=>by simp only [Rp]
 | .und,_,_,h=>by simpa only [Rp] using h
 | .int _ _,_,_,h=>by simpa only [Rp] using h
 | .bool _,_,_,h=>by simpa only [Rp] using h
 | .str _,_,_,h=>by simpa only [Rp] using h
 | .nils,_,_,h=>by simpa only [Rp] using h
 | .nilp,_,_,h=>by simpa only [Rp] using h
 | .nilfn,_,_,h=>by simpa only [Rp] using h
 | .nilif,_,_,h=>by simpa only [Rp] using h
 | .gl _,_,_,h=>by simpa only [Rp] using h
 | .nilmp,_,_,h=>by simpa only [Rp] using h
 | .sl rows,_,_,h=>by
  have:=Rp.later (ρ:=noPl) (ρ':=noPl) (.sl rows) hl.later (by simpa only [Rp] using h)
  simpa only [Rp] using this
 | .ia row off,_,_,h=>by
  have:=Rp.later (ρ:=noPl) (ρ':=noPl) (.ia row off) hl.later (by simpa only [Rp] using h)
  simpa only [Rp] using this
 | .sref j off n,v,hn,h=>by
  simp only [AV.named] at hn
  simp only [Rp] at h ⊢
  rw [hl.pl j hn]
  exact h
 | .ptr j r off,v,hn,h=>by
  simp only [AV.named] at hn
  simp only [Rp] at h ⊢
  rw [hl.pl j hn]
  exact h
 | .mp j,v,hn,h=>by
  simp only [AV.named] at hn
  simp only [Rp] at h ⊢
  rw [hl.pl j hn]
  exact h
 | .it j,v,hn,h=>by
  simp only [AV.named] at hn
  simp only [Rp] at h ⊢
  rw [hl.pl j hn]
  exact h
 | .md clock births rows,_,_,h=>by
  have:=Rp.later (ρ:=noPl) (ρ':=noPl) (.md clock births rows) hl.later (by simpa only [Rp] using h)
  simpa only [Rp] using this
 | .agg cs,v,hn,h=>by
  simp only [AV.named] at hn
  simp only [Rp] at h ⊢
  obtain ⟨vs,h1,h2⟩:=h
  exact ⟨vs,h1,Rps.named hl cs hn h2⟩
 | .tup cs,v,hn,h=>by
  simp only [AV.named] at hn
  simp only [Rp] at h ⊢
  obtain ⟨vs,h1,h2⟩:=h
  exact ⟨vs,h1,Rps.named hl cs hn h2⟩
 | .fn f fs cs,v,hn,h=>by
  simp only [AV.named,Bool.and_eq_true] at hn
  simp only [Rp] at h ⊢
  obtain ⟨us,vs,h1,h2,h3⟩:=h
  exact ⟨us,vs,h1,Rps.named hl fs hn.1 h2,Rps.named hl cs hn.2 h3⟩
 | .ifc t x,v,hn,h=>by
  simp only [AV.named] at hn
  simp only [Rp] at h ⊢
  obtain ⟨y,h1,h2⟩:=h
  exact ⟨y,h1,Rp.named hl x hn h2⟩
theorem Rps.named {hp:List Ob} {w:World} {A A':Nat→Prop} {ρ ρ':Pl} (hl:Fewer hp w A ρ A' ρ'):∀ (l:List AV) {vs:List Value},AV.nameds hp l=true→Rps w A ρ l vs→Rps w A' ρ' l vs
 | [],_,_,h=>by simpa only [Rps] using h
 | x::xs,vs,hn,h=>by
  simp only [AV.nameds,Bool.and_eq_true] at hn
  simp only [Rps] at h ⊢
  obtain ⟨v,us,h1,h2,h3⟩:=h
  exact ⟨v,us,h1,Rp.named hl x hn.1 h2,Rps.named hl xs hn.2 h3⟩
end
theorem RpR.named {hp:List Ob} {w:World} {A A':Nat→Prop} {ρ ρ':Pl} (hl:Fewer hp w A ρ A' ρ'):∀ {l:List (List AV)} {vs:List (List Value)},l.all (AV.nameds hp)=true→RpR w A ρ l vs→RpR w A' ρ' l vs
 | [],_,_,h=>by simpa only [RpR] using h
 | x::xs,vs,hn,h=>by
  simp only [List.all_cons,Bool.and_eq_true] at hn
  simp only [RpR] at h ⊢
  obtain ⟨v,us,h1,h2,h3⟩:=h
  exact ⟨v,us,h1,Rps.named hl x hn.1 h2,h3.named hl hn.2⟩
def leH (pins:List Nat):Nat→List Ob→List Ob→Prop
 | _,[],[]=>True
 | k,x::xs,y::ys=>(x=y∨(y = .dead∧k∉pins))∧leH pins (k+1) xs ys
 | _,_,_=>False
theorem leH_at {pins:List Nat}:∀ {k:Nat} {hp hp':List Ob},leH pins k hp hp'→∀ i,hp.getD i .dead=hp'.getD i .dead∨(hp'.getD i .dead = .dead∧k+i∉pins)
 | _,[],[],_,i => .inl rfl
 | _,[],_::_,h,_=>h.elim
 | _,_::_,[],h,_=>h.elim
 | k,x::xs,y::ys,h,i=>by
  cases i with
  | zero=>simpa using h.1
  | succ i =>
   have:=leH_at h.2 i
   rwa [show k+1+i=k+(i+1) by omega] at this
def obsOk (hp:List Ob):Bool:=hp.all fun o=>match o with
 | .arr _ _ pf rows=>pf || rows.all (AV.nameds hp)
 | .dead=>true
 | .map _ _ _=>true
 | .iter m _ _ _=>AV.named hp m
theorem getD_live {hp:List Ob} {i:Nat} {o:Ob} (h:hp.getD i .dead=o) (h0:o ≠ .dead):hp[i]?=some o:=by
 rw [List.getD_eq_getElem?_getD] at h
 cases hi:hp[i]? with
 | none=>rw [hi] at h;exact absurd h.symm h0
 | some x=>rw [hi] at h;exact congrArg some h
theorem Rep.drop {fr:Fr} {ρ:Pl} {a:Act} {w:World} {e e':List AV} {hp hp':List Ob} (hr:Rep fr ρ ⟨e,hp⟩ a w) (h:leE e e') (hh:leH fr.pins 0 hp hp') (hn:AV.nameds hp' e'=true) (ho:obsOk hp'=true) :
  ∃ ρ',(∀ i p,ρ' i=some p→ρ i=some p∧live hp' i=true)∧Rep fr ρ' ⟨e',hp'⟩ a w:=by
 have hat:=leH_at hh
 let ρ':Pl:=fun i=>if live hp' i=true then ρ i else none
 have hsub:∀ i p,ρ' i=some p→ρ i=some p∧live hp' i=true:=by
  intro i p hi
  by_cases hl:live hp' i=true
  ·simp only [ρ',hl,if_true] at hi;exact ⟨hi,hl⟩
  ·simp only [ρ',hl] at hi;cases hi
 have hfew:Fewer hp' w (Av fr.F ρ) ρ (Av fr.F ρ') ρ':=by
  refine ⟨?_,fun j hj=>by simp only [ρ',hj,if_true]⟩
  rintro k (h1 | ⟨i,p,h1,h2⟩)
  ·exact .inl h1
  ·exact .inr ⟨i,p,(hsub i p h1).1,h2⟩
 refine ⟨ρ',hsub,{ keep:=hr.keep,base:=hr.base,defers:=hr.defers,heap:=fun i=>?_,inj:=fun i j p q b hi hj hp hq=>hr.inj i j p q b (hsub i p hi).1 (hsub j q hj).1 hp hq,mine:=fun i p b hi hp=>hr.mine i p b (hsub i p hi).1 hp,fF:=hr.fF,pin:=fun i hi=>?_,env:=Rps.named hfew e' hn (leE_sound h hr.env) }⟩
 ·have hri:=hr.heap i
  show HRo _ _ _ (hp'.getD i .dead) (ρ' i)
  cases hob:hp'.getD i .dead with
  | dead =>
   show ρ' i=none
   have hl:live hp' i=false:=by simp only [live,hob]
   simp only [ρ',hl]
   rfl
  | map clock births rows =>
   have hl:live hp' i=true:=by simp only [live,hob]
   have he:hp.getD i .dead = .map clock births rows:=by
    rcases hat i with h1 | ⟨h1,_⟩
    ·exact h1.trans hob
    ·rw [hob] at h1;cases h1
   have hri':HRo w (Av fr.F ρ) ρ (.map clock births rows) (ρ i):=by rw [← he];exact hri
   rw [hfew.pl i hl]
   match hpi:ρ i,hri' with
   | some (.mapb b),hri' =>
    obtain ⟨ents,g1,g2,g3,g4⟩:=hri'
    exact ⟨ents,g1,g2,g3,RpR.later (ρ:=noPl) _ hfew.later g4⟩
   | some .nil,hri'=>exact hri'.elim
   | some (.blk b s cap len),hri'=>exact hri'.elim
   | none,hri'=>exact hri'.elim
  | iter m since seen stepped =>
   have hl:live hp' i=true:=by simp only [live,hob]
   have he:hp.getD i .dead = .iter m since seen stepped:=by
    rcases hat i with h1 | ⟨h1,_⟩
    ·exact h1.trans hob
    ·rw [hob] at h1;cases h1
   have hri':HRo w (Av fr.F ρ) ρ (.iter m since seen stepped) (ρ i):=by rw [← he];exact hri
   rw [hfew.pl i hl]
   match hpi:ρ i,hri' with
   | some (.mapb b),hri' =>
    obtain ⟨x,g1,g2⟩:=hri'
    have hm:Ob.iter m since seen stepped∈hp':=List.mem_of_getElem? (getD_live hob (by simp))
    have hlj:=List.all_eq_true.1 ho _ hm
    exact ⟨x,g1,Rp.named hfew m hlj g2⟩
   | some .nil,hri'=>exact hri'.elim
   | some (.blk b s cap len),hri'=>exact hri'.elim
   | none,hri'=>exact hri'.elim
  | arr T k pf rows =>
   have hl:live hp' i=true:=by simp only [live,hob]
   have he:hp.getD i .dead = .arr T k pf rows:=by
    rcases hat i with h1 | ⟨h1,_⟩
    ·exact h1.trans hob
    ·rw [hob] at h1;cases h1
   have hri':HRo w (Av fr.F ρ) ρ (.arr T k pf rows) (ρ i):=by rw [← he];exact hri
   have hρ:ρ' i=ρ i:=hfew.pl i hl
   rw [hρ]
   have hall:pf=true∨rows.all (AV.nameds hp')=true:=by
    have hm:Ob.arr T k pf rows∈hp':=by
     have hi:hp'[i]?=some (.arr T k pf rows):=getD_arr hob
     exact List.mem_of_getElem? hi
    have:=List.all_eq_true.1 ho _ hm
    simpa using this
   match hpi:ρ i,hri' with
   | some .nil,hri'=>exact hri'
   | some (.blk b s cap len),hri' =>
    obtain ⟨g1,g2,vss,rest,g3,g4,g5,g6,g7,g8⟩:=hri'
    refine ⟨g1,g2,vss,rest,g3,?_,g5,g6,g7,g8⟩
    cases pf with
    | true=>exact RpR.later (ρ:=noPl) _ hfew.later g4
    | false=>exact g4.named hfew (hall.resolve_left (by simp))
   | some (.mapb b),hri'=>exact hri'.elim
   | none,hri'=>exact hri'.elim
 ·have hpi:=hr.pin i hi
  have hl:live hp' i=true:=by
   rcases hat i with h1 | ⟨_,h1⟩
   ·cases hob:hp'.getD i .dead with
    | dead =>
     have:=hr.heap i
     rw [show (St.mk e hp).hp.getD i .dead = .dead from h1.trans hob] at this
     exact absurd this hpi.2
    | arr T k pf rows=>simp only [live,hob]
    | map _ _ _=>simp only [live,hob]
    | iter _ _ _ _=>simp only [live,hob]
   ·exact absurd hi (by simpa using h1)
  rw [hfew.pl i hl]
  exact hpi
theorem Le_drop {pins:List Nat} {e e':List AV} {hp hp':List Ob} (h:leE e e') (hh:leH pins 0 hp hp') (hn:AV.nameds hp' e'=true) (ho:obsOk hp'=true):Le pins ⟨e,hp⟩ ⟨e',hp'⟩:=by
 intro fr ρ a w hpins hr
 subst hpins
 obtain ⟨ρ',_,h1⟩:=hr.drop h hh hn ho
 exact ⟨ρ',h1⟩
theorem Le_nil {pins:List Nat} {e:List AV} {hp:List Ob} (j d:Nat) (T:TypeId) (k:Nat) (pf:Bool) (hj:e[j]?=some .nils) (hd:hp[d]?=some .dead):Le pins ⟨e,hp⟩ ⟨e.set j (.sref d 0 0),hp.set d (.arr T k pf [])⟩:=by
 intro fr ρ a w hpins hr
 have hr':=hr.nilObj (d:=d) hd T k pf
 refine ⟨_,{ hr' with env:=?_ }⟩
 have henv:=hr'.env
 obtain ⟨v,hv,hr1⟩:=henv.get (show e[j]?=some .nils from hj)
 simp only [Rp] at hr1
 subst hr1
 have h2:Rp w (Av fr.F (ρ.put d (some .nil))) (ρ.put d (some .nil)) (.sref d 0 0) (.slice none 0 0):=by
  simp only [Rp];exact .inl ⟨Pl.put_same _ _ _,by simp,by simp,by simp⟩
 have h3:=henv.set j h2
 have h4:a.tmps.toList.set j (.slice none 0 0)=a.tmps.toList:=by
  obtain ⟨hlt,he⟩:=List.getElem?_eq_some_iff.1 hv
  rw [← he,List.set_getElem_self]
 rwa [h4] at h3
theorem allLen_lit {k:Nat} {l:List (List AV)} (h:(l.all fun r=>r.length == k)=true):AllLen k l:=fun r hr=>by
 have:=List.all_eq_true.1 h r hr
 simpa using this
theorem allOne_lit {l:List (List AV)} (h:(l.all fun r=>r.all AV.one)=true):AllOne l:=fun r hr=>List.all_eq_true.1 h r hr
section
variable {P:Program} {pins:List Nat} {s:St} {A:AV→St→Prop} {d:Option Tmp} {x y:AV} {e:TypeId}
def appO (P:Program) (e:TypeId) (pins:List Nat) (i n:Nat) (pf':Bool) (new:List (List AV)) (o:Ob) (s:St) (A:AV→St→Prop):Prop :=
 match o with
 | .arr T k pf rows=>T=e∧k=(tyOf P e).size∧i∉pins∧(pf=true→pf'=true∨AllPure new)∧n≤rows.length∧(n+new.length)*(tyOf P e).bytes≤140737488355328∧n+new.length≤140737488355328 ∧
     A (.sref i 0 (n+new.length)) ⟨AV.kills i s.env,(s.hp.set i (.arr T k pf (rows.take n++new))).map (Ob.kill i)⟩
 | _=>False
def appR (P:Program) (e:TypeId) (pins:List Nat) (d:Option Tmp) (x:AV) (s:St) (A:AV→St→Prop) (r:Option (Bool × List (List AV))):Prop :=
 match r with
 | some (pf',new)=>(tyOf P e).d ≠ .no∧(tyOf P e).hz=true∧(tyOf P e).zero.length=(tyOf P e).size∧(tyOf P e).size≠0∧AllLen (tyOf P e).size new∧AllOne new∧(match x with
  | .sref i 0 n=>appO P e pins i n pf' new (s.hp.getD i .dead) s A
  | .nils=>match d with
   | some d=>dead s d∧d∉pins∧new.length*(tyOf P e).bytes≤140737488355328∧new.length≤140737488355328∧A (.sref d 0 new.length) ⟨AV.kills d s.env,(s.hp.set d (.arr e (tyOf P e).size pf' new)).map (Ob.kill d)⟩
   | none=>False
  | _=>False)
 | none=>False
theorem appendW_eq {n b:Nat} {hz:Bool} {z:List AV}:(appendW P ⟨.slice e,n,b,hz,z⟩ pins d x y s A=appR P e pins d x s A (rowsOf y s.hp)):=by
 unfold appendW appR
 dsimp only
 cases rowsOf y s.hp <;> first | rfl | (rename_i q;rfl)
theorem appR_sref {i n:Nat} {pf':Bool} {new:List (List AV)}:(appR P e pins d (.sref i 0 n) s A (some (pf',new))=((tyOf P e).d ≠ .no∧(tyOf P e).hz=true∧(tyOf P e).zero.length=(tyOf P e).size∧(tyOf P e).size≠0∧AllLen (tyOf P e).size new∧AllOne new∧appO P e pins i n pf' new (s.hp.getD i .dead) s A)):=propext Iff.rfl
theorem appR_nils {d:Tmp} {pf':Bool} {new:List (List AV)}:(appR P e pins (some d) .nils s A (some (pf',new))=((tyOf P e).d ≠ .no∧(tyOf P e).hz=true∧(tyOf P e).zero.length=(tyOf P e).size∧(tyOf P e).size≠0∧AllLen (tyOf P e).size new∧AllOne new∧dead s d∧d∉pins∧new.length*(tyOf P e).bytes≤140737488355328∧new.length≤140737488355328∧A (.sref d 0 new.length) ⟨AV.kills d s.env,(s.hp.set d (.arr e (tyOf P e).size pf' new)).map (Ob.kill d)⟩)):=propext Iff.rfl
theorem appO_arr {i n:Nat} {pf':Bool} {new:List (List AV)} {T:TypeId} {k:Nat} {pf:Bool} {rows:List (List AV)}:(appO P e pins i n pf' new (.arr T k pf rows) s A=(T=e∧k=(tyOf P e).size∧i∉pins∧(pf=true→pf'=true∨AllPure new)∧n≤rows.length∧(n+new.length)*(tyOf P e).bytes≤140737488355328∧n+new.length≤140737488355328 ∧
     A (.sref i 0 (n+new.length)) ⟨AV.kills i s.env,(s.hp.set i (.arr T k pf (rows.take n++new))).map (Ob.kill i)⟩)):=propext Iff.rfl
def rowsO (off n:Nat) (o:Ob):Option (Bool × List (List AV)) :=
 match o with
 | .arr _ _ pf rows=>some (pf,(rows.drop off).take n)
 | _=>none
theorem rowsOf_sl {rows:List (List AV)} {hp:List Ob}:rowsOf (.sl rows) hp=some (true,rows):=id rfl
theorem rowsOf_nils {hp:List Ob}:rowsOf .nils hp=some (true,[]):=id rfl
theorem rowsOf_sref {i off n:Nat} {hp:List Ob}:rowsOf (.sref i off n) hp=rowsO off n (hp.getD i .dead):=id rfl
theorem rowsO_arr {off n:Nat} {T:TypeId} {k:Nat} {pf:Bool} {rows:List (List AV)}:rowsO off n (.arr T k pf rows)=some (pf,(rows.drop off).take n):=id rfl
theorem kill_any {i:Nat}  : AV.kill i (.any)=(.any):=by simp only [AV.kill]
theorem kill_und {i:Nat}  : AV.kill i (.und)=(.und):=by simp only [AV.kill]
theorem kill_int {i:Nat} {k:IntKind} {m:Int}:AV.kill i (.int k m)=(.int k m):=by simp only [AV.kill]
theorem kill_bool {i:Nat} {b:Bool}:AV.kill i (.bool b)=(.bool b):=by simp only [AV.kill]
theorem kill_str {i:Nat} {b:ByteArray}:AV.kill i (.str b)=(.str b):=by simp only [AV.kill]
theorem kill_nils {i:Nat}  : AV.kill i (.nils)=(.nils):=by simp only [AV.kill]
theorem kill_sl {i:Nat} {l:List (List AV)}:AV.kill i (.sl l)=(.sl l):=by simp only [AV.kill]
theorem kill_ia {i:Nat} {l:List AV} {o:Nat}:AV.kill i (.ia l o)=(.ia l o):=by simp only [AV.kill]
theorem kill_nilp {i:Nat}  : AV.kill i (.nilp)=(.nilp):=by simp only [AV.kill]
theorem kill_nilif {i:Nat}  : AV.kill i (.nilif)=(.nilif):=by simp only [AV.kill]
theorem kill_nilfn {i:Nat}  : AV.kill i (.nilfn)=(.nilfn):=by simp only [AV.kill]
theorem kill_nilmp {i:Nat}  : AV.kill i (.nilmp)=(.nilmp):=by simp only [AV.kill]
theorem kill_gl {i:Nat} {g:Nat}:AV.kill i (.gl g)=(.gl g):=by simp only [AV.kill]
theorem kill_sref {i:Nat} {j off n:Nat}:AV.kill i (.sref j off n)=(if j=i then .any else .sref j off n):=by simp only [AV.kill]
theorem kill_ptr {i:Nat} {j r off:Nat}:AV.kill i (.ptr j r off)=(if j=i then .any else .ptr j r off):=by simp only [AV.kill]
theorem kill_agg {i:Nat} {l:List AV}:AV.kill i (.agg l)=(.agg (AV.kills i l)):=by simp only [AV.kill]
theorem kill_tup {i:Nat} {l:List AV}:AV.kill i (.tup l)=(.tup (AV.kills i l)):=by simp only [AV.kill]
theorem kill_fn {i:Nat} {f:Fn} {l m:List AV}:AV.kill i (.fn f l m)=(.fn f (AV.kills i l) (AV.kills i m)):=by simp only [AV.kill]
theorem kill_ifc {i:Nat} {t:TypeId} {x:AV}:AV.kill i (.ifc t x)=(.ifc t (AV.kill i x)):=by simp only [AV.kill]
theorem kills_nil {i:Nat}:AV.kills i []=[]:=id rfl
theorem kills_cons {i:Nat} {x:AV} {l:List AV}:AV.kills i (x::l)=AV.kill i x::AV.kills i l:=by simp only [AV.kills]
theorem kill_dead {i:Nat}:Ob.kill i .dead = .dead:=id rfl
theorem kill_arr {i:Nat} {rs:List (List AV)} {T:TypeId} {k:Nat}:Ob.kill i (.arr T k true rs) = .arr T k true rs:=id rfl
theorem kill_arrf {i:Nat} {rs:List (List AV)} {T:TypeId} {k:Nat}:Ob.kill i (.arr T k false rs) = .arr T k false (rs.map (AV.kills i)):=id rfl
end
theorem ty1:tyOf Tryz.prog 1=⟨.func,1,8,true,[.nilfn]⟩:=by kernel_rfl
theorem ty2:tyOf Tryz.prog 2=⟨.int .i64,1,8,true,[.int .i64 0]⟩:=by kernel_rfl
theorem ty3:tyOf Tryz.prog 3=⟨.int .i64,1,8,true,[.int .i64 0]⟩:=by kernel_rfl
theorem ty4:tyOf Tryz.prog 4=⟨.bool,1,1,true,[.bool false]⟩:=by kernel_rfl
theorem ty5:tyOf Tryz.prog 5=⟨.int .u8,1,1,true,[.int .u8 0]⟩:=by kernel_rfl
theorem ty9:tyOf Tryz.prog 9=⟨.str,1,16,true,[.str (ByteArray.mk #[])]⟩:=by kernel_rfl
theorem ty19:tyOf Tryz.prog 19=⟨.struct [(0,17)],1,8,true,[.nilp]⟩:=by kernel_rfl
theorem ty20:tyOf Tryz.prog 20=⟨.iface,1,16,true,[.nilif]⟩:=by kernel_rfl
theorem ty21:tyOf Tryz.prog 21=⟨.int .i32,1,4,true,[.int .i32 0]⟩:=by kernel_rfl
theorem ty22:tyOf Tryz.prog 22=⟨.slice 84,1,24,true,[.nils]⟩:=by kernel_rfl
theorem ty23:tyOf Tryz.prog 23=⟨.struct [(0,3),(1,22)],2,32,true,[.int .i64 0,.nils]⟩:=by kernel_rfl
theorem ty24:tyOf Tryz.prog 24=⟨.struct [(0,3),(1,22)],2,32,true,[.int .i64 0,.nils]⟩:=by kernel_rfl
theorem ty25:tyOf Tryz.prog 25=⟨.slice 55,1,24,true,[.nils]⟩:=by kernel_rfl
theorem ty26:tyOf Tryz.prog 26=⟨.slice 55,1,24,true,[.nils]⟩:=by kernel_rfl
theorem ty27:tyOf Tryz.prog 27=⟨.int .i64,1,8,true,[.int .i64 0]⟩:=by kernel_rfl
theorem ty29:tyOf Tryz.prog 29=⟨.func,1,8,true,[.nilfn]⟩:=by kernel_rfl
theorem ty30:tyOf Tryz.prog 30=⟨.func,1,8,true,[.nilfn]⟩:=by kernel_rfl
theorem ty31:tyOf Tryz.prog 31=⟨.func,1,8,true,[.nilfn]⟩:=by kernel_rfl
theorem ty32:tyOf Tryz.prog 32=⟨.func,1,8,true,[.nilfn]⟩:=by kernel_rfl
theorem ty33:tyOf Tryz.prog 33=⟨.func,1,8,true,[.nilfn]⟩:=by kernel_rfl
theorem ty34:tyOf Tryz.prog 34=⟨.func,1,8,true,[.nilfn]⟩:=by kernel_rfl
theorem ty35:tyOf Tryz.prog 35=⟨.func,1,8,true,[.nilfn]⟩:=by kernel_rfl
theorem ty37:tyOf Tryz.prog 37=⟨.func,1,8,true,[.nilfn]⟩:=by kernel_rfl
theorem ty38:tyOf Tryz.prog 38=⟨.func,1,8,true,[.nilfn]⟩:=by kernel_rfl
theorem ty40:tyOf Tryz.prog 40=⟨.func,1,8,true,[.nilfn]⟩:=by kernel_rfl
theorem ty41:tyOf Tryz.prog 41=⟨.func,1,8,true,[.nilfn]⟩:=by kernel_rfl
theorem ty42:tyOf Tryz.prog 42=⟨.func,1,8,true,[.nilfn]⟩:=by kernel_rfl
theorem ty43:tyOf Tryz.prog 43=⟨.func,1,8,true,[.nilfn]⟩:=by kernel_rfl
theorem ty44:tyOf Tryz.prog 44=⟨.slice 58,1,24,true,[.nils]⟩:=by kernel_rfl
theorem ty46:tyOf Tryz.prog 46=⟨.func,1,8,true,[.nilfn]⟩:=by kernel_rfl
theorem ty47:tyOf Tryz.prog 47=⟨.func,1,8,true,[.nilfn]⟩:=by kernel_rfl
theorem ty48:tyOf Tryz.prog 48=⟨.slice 128,1,24,true,[.nils]⟩:=by kernel_rfl
theorem ty49:tyOf Tryz.prog 49=⟨.slice 128,1,24,true,[.nils]⟩:=by kernel_rfl
theorem ty50:tyOf Tryz.prog 50=⟨.struct [(0,4),(1,49)],2,32,true,[.bool false,.nils]⟩:=by kernel_rfl
theorem ty51:tyOf Tryz.prog 51=⟨.struct [(0,4),(1,49)],2,32,true,[.bool false,.nils]⟩:=by kernel_rfl
theorem ty52:tyOf Tryz.prog 52=⟨.struct [(0,51),(2,49)],3,56,true,[.bool false,.nils,.nils]⟩:=by kernel_rfl
theorem ty53:tyOf Tryz.prog 53=⟨.struct [(0,51),(2,49)],3,56,true,[.bool false,.nils,.nils]⟩:=by kernel_rfl
theorem ty54:tyOf Tryz.prog 54=⟨.struct [(0,3),(1,53)],4,64,true,[.int .i64 0,.bool false,.nils,.nils]⟩:=by kernel_rfl
theorem ty55:tyOf Tryz.prog 55=⟨.struct [(0,3),(1,53)],4,64,true,[.int .i64 0,.bool false,.nils,.nils]⟩:=by kernel_rfl
theorem ty56:tyOf Tryz.prog 56=⟨.func,1,8,true,[.nilfn]⟩:=by kernel_rfl
theorem ty57:tyOf Tryz.prog 57=⟨.struct [(0,53),(3,53)],6,112,true,[.bool false,.nils,.nils,.bool false,.nils,.nils]⟩:=by kernel_rfl
theorem ty58:tyOf Tryz.prog 58=⟨.struct [(0,53),(3,53)],6,112,true,[.bool false,.nils,.nils,.bool false,.nils,.nils]⟩:=by kernel_rfl
theorem ty59:tyOf Tryz.prog 59=⟨.func,1,8,true,[.nilfn]⟩:=by kernel_rfl
theorem ty60:tyOf Tryz.prog 60=⟨.func,1,8,true,[.nilfn]⟩:=by kernel_rfl
theorem ty62:tyOf Tryz.prog 62=⟨.func,1,8,true,[.nilfn]⟩:=by kernel_rfl
theorem ty63:tyOf Tryz.prog 63=⟨.slice 3,1,24,true,[.nils]⟩:=by kernel_rfl
theorem ty65:tyOf Tryz.prog 65=⟨.func,1,8,true,[.nilfn]⟩:=by kernel_rfl
theorem ty66:tyOf Tryz.prog 66=⟨.func,1,8,true,[.nilfn]⟩:=by kernel_rfl
theorem ty67:tyOf Tryz.prog 67=⟨.func,1,8,true,[.nilfn]⟩:=by kernel_rfl
theorem ty68:tyOf Tryz.prog 68=⟨.func,1,8,true,[.nilfn]⟩:=by kernel_rfl
theorem ty69:tyOf Tryz.prog 69=⟨.func,1,8,true,[.nilfn]⟩:=by kernel_rfl
theorem ty70:tyOf Tryz.prog 70=⟨.slice 72,1,24,true,[.nils]⟩:=by kernel_rfl
theorem ty71:tyOf Tryz.prog 71=⟨.struct [(0,4),(1,26),(2,3),(3,3)],4,48,true,[.bool false,.nils,.int .i64 0,.int .i64 0]⟩:=by kernel_rfl
theorem ty72:tyOf Tryz.prog 72=⟨.struct [(0,4),(1,26),(2,3),(3,3)],4,48,true,[.bool false,.nils,.int .i64 0,.int .i64 0]⟩:=by kernel_rfl
theorem ty73:tyOf Tryz.prog 73=⟨.func,1,8,true,[.nilfn]⟩:=by kernel_rfl
theorem ty74:tyOf Tryz.prog 74=⟨.func,1,8,true,[.nilfn]⟩:=by kernel_rfl
theorem ty75:tyOf Tryz.prog 75=⟨.func,1,8,true,[.nilfn]⟩:=by kernel_rfl
theorem ty76:tyOf Tryz.prog 76=⟨.func,1,8,true,[.nilfn]⟩:=by kernel_rfl
theorem ty77:tyOf Tryz.prog 77=⟨.func,1,8,true,[.nilfn]⟩:=by kernel_rfl
theorem ty78:tyOf Tryz.prog 78=⟨.func,1,8,true,[.nilfn]⟩:=by kernel_rfl
theorem ty80:tyOf Tryz.prog 80=⟨.slice 48,1,24,true,[.nils]⟩:=by kernel_rfl
theorem ty81:tyOf Tryz.prog 81=⟨.func,1,8,true,[.nilfn]⟩:=by kernel_rfl
theorem ty82:tyOf Tryz.prog 82=⟨.func,1,8,true,[.nilfn]⟩:=by kernel_rfl
theorem ty83:tyOf Tryz.prog 83=⟨.struct [(0,3),(1,26)],2,32,true,[.int .i64 0,.nils]⟩:=by kernel_rfl
theorem ty84:tyOf Tryz.prog 84=⟨.struct [(0,3),(1,26)],2,32,true,[.int .i64 0,.nils]⟩:=by kernel_rfl
theorem ty85:tyOf Tryz.prog 85=⟨.struct [(0,44),(1,3),(2,58)],8,144,true,[.nils,.int .i64 0,.bool false,.nils,.nils,.bool false,.nils,.nils]⟩:=by kernel_rfl
theorem ty86:tyOf Tryz.prog 86=⟨.struct [(0,44),(1,3),(2,58)],8,144,true,[.nils,.int .i64 0,.bool false,.nils,.nils,.bool false,.nils,.nils]⟩:=by kernel_rfl
theorem ty87:tyOf Tryz.prog 87=⟨.func,1,8,true,[.nilfn]⟩:=by kernel_rfl
theorem ty88:tyOf Tryz.prog 88=⟨.func,1,8,true,[.nilfn]⟩:=by kernel_rfl
theorem ty89:tyOf Tryz.prog 89=⟨.slice 158,1,24,true,[.nils]⟩:=by kernel_rfl
theorem ty90:tyOf Tryz.prog 90=⟨.slice 134,1,24,true,[.nils]⟩:=by kernel_rfl
theorem ty92:tyOf Tryz.prog 92=⟨.func,1,8,true,[.nilfn]⟩:=by kernel_rfl
theorem ty93:tyOf Tryz.prog 93=⟨.func,1,8,true,[.nilfn]⟩:=by kernel_rfl
theorem ty94:tyOf Tryz.prog 94=⟨.func,1,8,true,[.nilfn]⟩:=by kernel_rfl
theorem ty95:tyOf Tryz.prog 95=⟨.func,1,8,true,[.nilfn]⟩:=by kernel_rfl
theorem ty96:tyOf Tryz.prog 96=⟨.map 3 26,1,8,true,[.nilmp]⟩:=by kernel_rfl
theorem ty97:tyOf Tryz.prog 97=⟨.map 3 26,1,8,true,[.nilmp]⟩:=by kernel_rfl
theorem ty99:tyOf Tryz.prog 99=⟨.func,1,8,true,[.nilfn]⟩:=by kernel_rfl
theorem ty100:tyOf Tryz.prog 100=⟨.func,1,8,true,[.nilfn]⟩:=by kernel_rfl
theorem ty101:tyOf Tryz.prog 101=⟨.func,1,8,true,[.nilfn]⟩:=by kernel_rfl
theorem ty102:tyOf Tryz.prog 102=⟨.func,1,8,true,[.nilfn]⟩:=by kernel_rfl
theorem ty103:tyOf Tryz.prog 103=⟨.func,1,8,true,[.nilfn]⟩:=by kernel_rfl
theorem ty104:tyOf Tryz.prog 104=⟨.func,1,8,true,[.nilfn]⟩:=by kernel_rfl
theorem ty105:tyOf Tryz.prog 105=⟨.func,1,8,true,[.nilfn]⟩:=by kernel_rfl
theorem ty106:tyOf Tryz.prog 106=⟨.func,1,8,true,[.nilfn]⟩:=by kernel_rfl
theorem ty107:tyOf Tryz.prog 107=⟨.func,1,8,true,[.nilfn]⟩:=by kernel_rfl
theorem ty109:tyOf Tryz.prog 109=⟨.func,1,8,true,[.nilfn]⟩:=by kernel_rfl
theorem ty110:tyOf Tryz.prog 110=⟨.func,1,8,true,[.nilfn]⟩:=by kernel_rfl
theorem ty111:tyOf Tryz.prog 111=⟨.func,1,8,true,[.nilfn]⟩:=by kernel_rfl
theorem ty112:tyOf Tryz.prog 112=⟨.func,1,8,true,[.nilfn]⟩:=by kernel_rfl
theorem ty113:tyOf Tryz.prog 113=⟨.func,1,8,true,[.nilfn]⟩:=by kernel_rfl
theorem ty114:tyOf Tryz.prog 114=⟨.func,1,8,true,[.nilfn]⟩:=by kernel_rfl
theorem ty115:tyOf Tryz.prog 115=⟨.func,1,8,true,[.nilfn]⟩:=by kernel_rfl
theorem ty116:tyOf Tryz.prog 116=⟨.func,1,8,true,[.nilfn]⟩:=by kernel_rfl
theorem ty117:tyOf Tryz.prog 117=⟨.func,1,8,true,[.nilfn]⟩:=by kernel_rfl
theorem ty118:tyOf Tryz.prog 118=⟨.func,1,8,true,[.nilfn]⟩:=by kernel_rfl
theorem ty119:tyOf Tryz.prog 119=⟨.func,1,8,true,[.nilfn]⟩:=by kernel_rfl
theorem ty120:tyOf Tryz.prog 120=⟨.struct [(0,26),(1,53)],4,80,true,[.nils,.bool false,.nils,.nils]⟩:=by kernel_rfl
theorem ty121:tyOf Tryz.prog 121=⟨.struct [(0,26),(1,53)],4,80,true,[.nils,.bool false,.nils,.nils]⟩:=by kernel_rfl
theorem ty123:tyOf Tryz.prog 123=⟨.func,1,8,true,[.nilfn]⟩:=by kernel_rfl
theorem ty124:tyOf Tryz.prog 124=⟨.func,1,8,true,[.nilfn]⟩:=by kernel_rfl
theorem ty125:tyOf Tryz.prog 125=⟨.func,1,8,true,[.nilfn]⟩:=by kernel_rfl
theorem ty126:tyOf Tryz.prog 126=⟨.func,1,8,true,[.nilfn]⟩:=by kernel_rfl
theorem ty127:tyOf Tryz.prog 127=⟨.func,1,8,true,[.nilfn]⟩:=by kernel_rfl
theorem ty128:tyOf Tryz.prog 128=⟨.int .u32,1,4,true,[.int .u32 0]⟩:=by kernel_rfl
theorem ty130:tyOf Tryz.prog 130=⟨.func,1,8,true,[.nilfn]⟩:=by kernel_rfl
theorem ty131:tyOf Tryz.prog 131=⟨.func,1,8,true,[.nilfn]⟩:=by kernel_rfl
theorem ty132:tyOf Tryz.prog 132=⟨.slice 161,1,24,true,[.nils]⟩:=by kernel_rfl
theorem ty133:tyOf Tryz.prog 133=⟨.struct [(0,3),(1,4),(2,58),(8,132)],9,152,true,[.int .i64 0,.bool false,.bool false,.nils,.nils,.bool false,.nils,.nils,.nils]⟩:=by kernel_rfl
theorem ty134:tyOf Tryz.prog 134=⟨.struct [(0,3),(1,4),(2,58),(8,132)],9,152,true,[.int .i64 0,.bool false,.bool false,.nils,.nils,.bool false,.nils,.nils,.nils]⟩:=by kernel_rfl
theorem ty135:tyOf Tryz.prog 135=⟨.func,1,8,true,[.nilfn]⟩:=by kernel_rfl
theorem ty136:tyOf Tryz.prog 136=⟨.func,1,8,true,[.nilfn]⟩:=by kernel_rfl
theorem ty137:tyOf Tryz.prog 137=⟨.func,1,8,true,[.nilfn]⟩:=by kernel_rfl
theorem ty138:tyOf Tryz.prog 138=⟨.func,1,8,true,[.nilfn]⟩:=by kernel_rfl
theorem ty139:tyOf Tryz.prog 139=⟨.func,1,8,true,[.nilfn]⟩:=by kernel_rfl
theorem ty140:tyOf Tryz.prog 140=⟨.func,1,8,true,[.nilfn]⟩:=by kernel_rfl
theorem ty142:tyOf Tryz.prog 142=⟨.func,1,8,true,[.nilfn]⟩:=by kernel_rfl
theorem ty143:tyOf Tryz.prog 143=⟨.func,1,8,true,[.nilfn]⟩:=by kernel_rfl
theorem ty144:tyOf Tryz.prog 144=⟨.func,1,8,true,[.nilfn]⟩:=by kernel_rfl
theorem ty145:tyOf Tryz.prog 145=⟨.func,1,8,true,[.nilfn]⟩:=by kernel_rfl
theorem ty146:tyOf Tryz.prog 146=⟨.func,1,8,true,[.nilfn]⟩:=by kernel_rfl
theorem ty147:tyOf Tryz.prog 147=⟨.func,1,8,true,[.nilfn]⟩:=by kernel_rfl
theorem ty149:tyOf Tryz.prog 149=⟨.func,1,8,true,[.nilfn]⟩:=by kernel_rfl
theorem ty150:tyOf Tryz.prog 150=⟨.func,1,8,true,[.nilfn]⟩:=by kernel_rfl
theorem ty151:tyOf Tryz.prog 151=⟨.func,1,8,true,[.nilfn]⟩:=by kernel_rfl
theorem ty152:tyOf Tryz.prog 152=⟨.struct [(0,89)],1,24,true,[.nils]⟩:=by kernel_rfl
theorem ty153:tyOf Tryz.prog 153=⟨.struct [(0,89)],1,24,true,[.nils]⟩:=by kernel_rfl
theorem ty154:tyOf Tryz.prog 154=⟨.func,1,8,true,[.nilfn]⟩:=by kernel_rfl
theorem ty155:tyOf Tryz.prog 155=⟨.struct [(0,4),(1,58),(7,3)],8,128,true,[.bool false,.bool false,.nils,.nils,.bool false,.nils,.nils,.int .i64 0]⟩:=by kernel_rfl
theorem ty156:tyOf Tryz.prog 156=⟨.struct [(0,4),(1,58),(7,3)],8,128,true,[.bool false,.bool false,.nils,.nils,.bool false,.nils,.nils,.int .i64 0]⟩:=by kernel_rfl
theorem ty157:tyOf Tryz.prog 157=⟨.struct [(0,156),(8,156)],16,256,true,[.bool false,.bool false,.nils,.nils,.bool false,.nils,.nils,.int .i64 0,.bool false,.bool false,.nils,.nils,.bool false,.nils,.nils,.int .i64 0]⟩:=by kernel_rfl
theorem ty158:tyOf Tryz.prog 158=⟨.struct [(0,156),(8,156)],16,256,true,[.bool false,.bool false,.nils,.nils,.bool false,.nils,.nils,.int .i64 0,.bool false,.bool false,.nils,.nils,.bool false,.nils,.nils,.int .i64 0]⟩:=by kernel_rfl
theorem ty159:tyOf Tryz.prog 159=⟨.func,1,8,true,[.nilfn]⟩:=by kernel_rfl
theorem ty160:tyOf Tryz.prog 160=⟨.struct [(0,3),(1,53)],4,64,true,[.int .i64 0,.bool false,.nils,.nils]⟩:=by kernel_rfl
theorem ty161:tyOf Tryz.prog 161=⟨.struct [(0,3),(1,53)],4,64,true,[.int .i64 0,.bool false,.nils,.nils]⟩:=by kernel_rfl
theorem ty162:tyOf Tryz.prog 162=⟨.func,1,8,true,[.nilfn]⟩:=by kernel_rfl
theorem ty163:tyOf Tryz.prog 163=⟨.func,1,8,true,[.nilfn]⟩:=by kernel_rfl
theorem ty164:tyOf Tryz.prog 164=⟨.func,1,8,true,[.nilfn]⟩:=by kernel_rfl
theorem ty166:tyOf Tryz.prog 166=⟨.func,1,8,true,[.nilfn]⟩:=by kernel_rfl
theorem ty167:tyOf Tryz.prog 167=⟨.func,1,8,true,[.nilfn]⟩:=by kernel_rfl
theorem ty168:tyOf Tryz.prog 168=⟨.func,1,8,true,[.nilfn]⟩:=by kernel_rfl
theorem ty170:tyOf Tryz.prog 170=⟨.func,1,8,true,[.nilfn]⟩:=by kernel_rfl
theorem ty171:tyOf Tryz.prog 171=⟨.func,1,8,true,[.nilfn]⟩:=by kernel_rfl
theorem ty173:tyOf Tryz.prog 173=⟨.int .u64,1,8,true,[.int .u64 0]⟩:=by kernel_rfl
theorem ty174:tyOf Tryz.prog 174=⟨.func,1,8,true,[.nilfn]⟩:=by kernel_rfl
theorem ty175:tyOf Tryz.prog 175=⟨.func,1,8,true,[.nilfn]⟩:=by kernel_rfl
theorem ty177:tyOf Tryz.prog 177=⟨.func,1,8,true,[.nilfn]⟩:=by kernel_rfl
theorem ty178:tyOf Tryz.prog 178=⟨.func,1,8,true,[.nilfn]⟩:=by kernel_rfl
theorem ty179:tyOf Tryz.prog 179=⟨.func,1,8,true,[.nilfn]⟩:=by kernel_rfl
theorem ty180:tyOf Tryz.prog 180=⟨.func,1,8,true,[.nilfn]⟩:=by kernel_rfl
theorem ty181:tyOf Tryz.prog 181=⟨.func,1,8,true,[.nilfn]⟩:=by kernel_rfl
theorem ty182:tyOf Tryz.prog 182=⟨.func,1,8,true,[.nilfn]⟩:=by kernel_rfl
theorem ty183:tyOf Tryz.prog 183=⟨.func,1,8,true,[.nilfn]⟩:=by kernel_rfl
theorem ty184:tyOf Tryz.prog 184=⟨.func,1,8,true,[.nilfn]⟩:=by kernel_rfl
theorem ty185:tyOf Tryz.prog 185=⟨.func,1,8,true,[.nilfn]⟩:=by kernel_rfl
theorem ty187:tyOf Tryz.prog 187=⟨.func,1,8,true,[.nilfn]⟩:=by kernel_rfl
theorem ty188:tyOf Tryz.prog 188=⟨.func,1,8,true,[.nilfn]⟩:=by kernel_rfl
theorem ty189:tyOf Tryz.prog 189=⟨.func,1,8,true,[.nilfn]⟩:=by kernel_rfl
theorem ty190:tyOf Tryz.prog 190=⟨.func,1,8,true,[.nilfn]⟩:=by kernel_rfl
theorem ty191:tyOf Tryz.prog 191=⟨.func,1,8,true,[.nilfn]⟩:=by kernel_rfl
theorem ty192:tyOf Tryz.prog 192=⟨.func,1,8,true,[.nilfn]⟩:=by kernel_rfl
theorem ty194:tyOf Tryz.prog 194=⟨.func,1,8,true,[.nilfn]⟩:=by kernel_rfl
theorem ty195:tyOf Tryz.prog 195=⟨.int .i64,1,8,true,[.int .i64 0]⟩:=by kernel_rfl
theorem ty197:tyOf Tryz.prog 197=⟨.func,1,8,true,[.nilfn]⟩:=by kernel_rfl
theorem ty198:tyOf Tryz.prog 198=⟨.func,1,8,true,[.nilfn]⟩:=by kernel_rfl
theorem ty199:tyOf Tryz.prog 199=⟨.func,1,8,true,[.nilfn]⟩:=by kernel_rfl
theorem ty200:tyOf Tryz.prog 200=⟨.func,1,8,true,[.nilfn]⟩:=by kernel_rfl
theorem ty202:tyOf Tryz.prog 202=⟨.func,1,8,true,[.nilfn]⟩:=by kernel_rfl
theorem ty205:tyOf Tryz.prog 205=⟨.func,1,8,true,[.nilfn]⟩:=by kernel_rfl
theorem ty206:tyOf Tryz.prog 206=⟨.func,1,8,true,[.nilfn]⟩:=by kernel_rfl
theorem ty207:tyOf Tryz.prog 207=⟨.func,1,8,true,[.nilfn]⟩:=by kernel_rfl
theorem ty208:tyOf Tryz.prog 208=⟨.func,1,8,true,[.nilfn]⟩:=by kernel_rfl
theorem ty210:tyOf Tryz.prog 210=⟨.int .u64,1,8,true,[.int .u64 0]⟩:=by kernel_rfl
theorem ty213:tyOf Tryz.prog 213=⟨.func,1,8,true,[.nilfn]⟩:=by kernel_rfl
theorem ty214:tyOf Tryz.prog 214=⟨.ptr 3,1,8,true,[.nilp]⟩:=by kernel_rfl
theorem ty215:tyOf Tryz.prog 215=⟨.func,1,8,true,[.nilfn]⟩:=by kernel_rfl
theorem ty216:tyOf Tryz.prog 216=⟨.func,1,8,true,[.nilfn]⟩:=by kernel_rfl
theorem ty220:tyOf Tryz.prog 220=⟨.func,1,8,true,[.nilfn]⟩:=by kernel_rfl
theorem ty223:tyOf Tryz.prog 223=⟨.ptr 210,1,8,true,[.nilp]⟩:=by kernel_rfl
theorem ty225:tyOf Tryz.prog 225=⟨.func,1,8,true,[.nilfn]⟩:=by kernel_rfl
theorem ty226:tyOf Tryz.prog 226=⟨.func,1,8,true,[.nilfn]⟩:=by kernel_rfl
theorem ty228:tyOf Tryz.prog 228=⟨.iface,1,16,true,[.nilif]⟩:=by kernel_rfl
theorem ty229:tyOf Tryz.prog 229=⟨.iface,1,16,true,[.nilif]⟩:=by kernel_rfl
theorem ty230:tyOf Tryz.prog 230=⟨.ptr 247,1,8,true,[.nilp]⟩:=by kernel_rfl
theorem ty231:tyOf Tryz.prog 231=⟨.func,1,8,true,[.nilfn]⟩:=by kernel_rfl
theorem ty237:tyOf Tryz.prog 237=⟨.func,1,8,true,[.nilfn]⟩:=by kernel_rfl
theorem ty240:tyOf Tryz.prog 240=⟨.func,1,8,true,[.nilfn]⟩:=by kernel_rfl
theorem ty246:tyOf Tryz.prog 246=⟨.struct [(0,9)],1,16,true,[.str (ByteArray.mk #[])]⟩:=by kernel_rfl
theorem ty247:tyOf Tryz.prog 247=⟨.struct [(0,9)],1,16,true,[.str (ByteArray.mk #[])]⟩:=by kernel_rfl
theorem zok26:zok Tryz.prog 26=true:=by kernel_rfl
abbrev sT:=And.intro (And.intro (And.intro (And.intro (And.intro (And.intro (And.intro @ty1 @ty2) (And.intro @ty3 (And.intro @ty4 @ty5))) (And.intro (And.intro @ty9 (And.intro @ty19 @ty20)) (And.intro @ty21 (And.intro @ty22 @ty23)))) (And.intro (And.intro (And.intro @ty24 (And.intro @ty25 @ty26)) (And.intro @ty27 (And.intro @ty29 @ty30))) (And.intro (And.intro @ty31 (And.intro @ty32 @ty33)) (And.intro @ty34 (And.intro @ty35 @ty37))))) (And.intro (And.intro (And.intro (And.intro @ty38 (And.intro @ty40 @ty41)) (And.intro @ty42 (And.intro @ty43 @ty44))) (And.intro (And.intro @ty46 (And.intro @ty47 @ty48)) (And.intro @ty49 (And.intro @ty50 @ty51)))) (And.intro (And.intro (And.intro @ty52 (And.intro @ty53 @ty54)) (And.intro @ty55 (And.intro @ty56 @ty57))) (And.intro (And.intro @ty58 (And.intro @ty59 @ty60)) (And.intro @ty62 (And.intro @ty63 @ty65)))))) (And.intro (And.intro (And.intro (And.intro (And.intro @ty66 (And.intro @ty67 @ty68)) (And.intro @ty69 (And.intro @ty70 @ty71))) (And.intro (And.intro @ty72 (And.intro @ty73 @ty74)) (And.intro @ty75 (And.intro @ty76 @ty77)))) (And.intro (And.intro (And.intro @ty78 (And.intro @ty80 @ty81)) (And.intro @ty82 (And.intro @ty83 @ty84))) (And.intro (And.intro @ty85 (And.intro @ty86 @ty87)) (And.intro @ty88 (And.intro @ty89 @ty90))))) (And.intro (And.intro (And.intro (And.intro @ty92 (And.intro @ty93 @ty94)) (And.intro @ty95 (And.intro @ty96 @ty97))) (And.intro (And.intro @ty99 (And.intro @ty100 @ty101)) (And.intro @ty102 (And.intro @ty103 @ty104)))) (And.intro (And.intro (And.intro @ty105 (And.intro @ty106 @ty107)) (And.intro @ty109 (And.intro @ty110 @ty111))) (And.intro (And.intro @ty112 (And.intro @ty113 @ty114)) (And.intro @ty115 (And.intro @ty116 @ty117))))))) (And.intro (And.intro (And.intro (And.intro (And.intro (And.intro @ty118 @ty119) (And.intro @ty120 (And.intro @ty121 @ty123))) (And.intro (And.intro @ty124 (And.intro @ty125 @ty126)) (And.intro @ty127 (And.intro @ty128 @ty130)))) (And.intro (And.intro (And.intro @ty131 (And.intro @ty132 @ty133)) (And.intro @ty134 (And.intro @ty135 @ty136))) (And.intro (And.intro @ty137 (And.intro @ty138 @ty139)) (And.intro @ty140 (And.intro @ty142 @ty143))))) (And.intro (And.intro (And.intro (And.intro @ty144 (And.intro @ty145 @ty146)) (And.intro @ty147 (And.intro @ty149 @ty150))) (And.intro (And.intro @ty151 (And.intro @ty152 @ty153)) (And.intro @ty154 (And.intro @ty155 @ty156)))) (And.intro (And.intro (And.intro @ty157 (And.intro @ty158 @ty159)) (And.intro @ty160 (And.intro @ty161 @ty162))) (And.intro (And.intro @ty163 (And.intro @ty164 @ty166)) (And.intro @ty167 (And.intro @ty168 @ty170)))))) (And.intro (And.intro (And.intro (And.intro (And.intro @ty171 (And.intro @ty173 @ty174)) (And.intro @ty175 (And.intro @ty177 @ty178))) (And.intro (And.intro @ty179 (And.intro @ty180 @ty181)) (And.intro @ty182 (And.intro @ty183 @ty184)))) (And.intro (And.intro (And.intro @ty185 (And.intro @ty187 @ty188)) (And.intro @ty189 (And.intro @ty190 @ty191))) (And.intro (And.intro @ty192 (And.intro @ty194 @ty195)) (And.intro @ty197 (And.intro @ty198 @ty199))))) (And.intro (And.intro (And.intro (And.intro @ty200 (And.intro @ty202 @ty205)) (And.intro @ty206 (And.intro @ty207 @ty208))) (And.intro (And.intro @ty210 (And.intro @ty213 @ty214)) (And.intro @ty215 (And.intro @ty216 @ty220)))) (And.intro (And.intro (And.intro @ty223 (And.intro @ty225 @ty226)) (And.intro @ty228 (And.intro @ty229 @ty230))) (And.intro (And.intro @ty231 (And.intro @ty237 @ty240)) (And.intro @ty246 (And.intro @ty247 @zok26)))))))
theorem mixed:Tryz.prog.follows .mixedOrders=true:=by kernel_rfl
end Go.Proofs.YtjmpajgjaefcjaaGreat.Vm
namespace Go.Proofs.YtjmpajgjaefcjaaGreat.Vm
open Go
def depsOf (o:Oper):List Nat:=(o.after.toList.filter (Region.binds .any)).map (·.on)
def reach (ops:Array Oper):Nat→List Nat→List Nat
 | 0,R=>R
 | k+1,R=>reach ops k (if R.contains k then R++((ops[k]?).map depsOf).getD [] else R)
theorem reach_listed {ops:Array Oper} {listed:Array Bool} (hcl:∀ k o,ops[k]?=some o→listed.getD k false=true→∀ e∈o.after,Region.binds .any e=true→listed.getD e.on false=true) :
  ∀ (k:Nat) (R:List Nat),(∀ x∈R,listed.getD x false=true)→∀ x∈reach ops k R,listed.getD x false=true
 | 0,R,h,x,hx=>h x hx
 | k+1,R,h,x,hx=>by
  refine reach_listed hcl k _ (fun y hy=>?_) x hx
  split at hy
  ·rename_i hk
   rcases List.mem_append.1 hy with hy | hy
   ·exact h y hy
   ·cases ho:ops[k]? with
    | none=>rw [ho] at hy;simp at hy
    | some o =>
     rw [ho] at hy
     simp only [Option.map_some,Option.getD_some,depsOf,List.mem_map,List.mem_filter] at hy
     obtain ⟨e,⟨he,hb⟩,rfl⟩:=hy
     exact hcl k o ho (h k (by simpa using hk)) e (by simpa using he) hb
  ·exact h y hy
def splitOk (ops:Array Oper) (L:List (Nat × Nat)) (m:Nat):Bool :=
 (!nwL L || (List.range m).all fun k=>((ops[k]?).map fun o=>!Op.mw o.op).getD true) &&
 decide (m<ops.size) &&
 ((List.range ops.size).all fun k=>((ops[k]?).map fun o=>o.after.all fun e=>!Region.binds .any e || decide (e.on<k)).getD true) &&
 ((List.range m).all fun k=>(List.range k).all fun j=>pairOk ops L j k) &&
 ((List.range m).all fun j=>(reach ops m (((ops[m]?).map depsOf).getD [])).contains j) &&
 ((List.range ops.size).all fun k=>decide (k≤m) || ((ops[k]?).map fun o=>ordered o (k-1)).getD true)
theorem splitOk_at {ops:Array Oper} {L:List (Nat × Nat)} {m:Nat} (h:splitOk ops L m=true):m<ops.size ∧
  (∀ k o,ops[k]?=some o→∀ e∈o.after,Region.binds .any e=true→e.on<k) ∧
  (∀ k o,k<m→ops[k]?=some o→∀ j x,j<k→ops[j]?=some x→ordered o j=true∨(Oper.apart ops x o=true∧(memOk x o=true∨(j,k)∈L))) ∧
  (∀ o,ops[m]?=some o→∀ listed:Array Bool,(∀ k o,ops[k]?=some o→listed.getD k false=true→∀ e∈o.after,Region.binds .any e=true→listed.getD e.on false=true)→(∀ e∈o.after,Region.binds .any e=true→listed.getD e.on false=true)→∀ j,j<m→listed.getD j false=true) ∧
  (∀ k o,m<k→ops[k]?=some o→ordered o (k-1)=true):=by
 unfold splitOk at h
 rw [Bool.and_eq_true,Bool.and_eq_true,Bool.and_eq_true,Bool.and_eq_true,Bool.and_eq_true,decide_eq_true_eq] at h
 obtain ⟨⟨⟨⟨⟨_,h1⟩,h2⟩,h3⟩,h4⟩,h5⟩:=h
 refine ⟨h1,fun k o ho e he hb=>?_,fun k o hk ho j x hj hx=>?_,fun o ho listed hcl hd j hj=>?_,fun k o hk ho=>?_⟩
 ·have hks:k<ops.size:=(Array.getElem?_eq_some_iff.1 ho).1
  have:=List.all_eq_true.1 h2 k (by simpa using hks)
  rw [ho] at this
  simp only [Option.map_some,Option.getD_some,Array.all_eq_true_iff_forall_mem] at this
  have:=this e he
  rw [hb] at this
  simpa using this
 ·have:=List.all_eq_true.1 (List.all_eq_true.1 h3 k (by simpa using hk)) j (by simpa using hj)
  unfold pairOk at this
  rw [hx,ho] at this
  simpa using this
 ·have:=List.all_eq_true.1 h4 j (by simpa using hj)
  rw [ho] at this
  refine reach_listed hcl m _ (fun x hx=>?_) j (by simpa using this)
  simp only [Option.map_some,Option.getD_some,depsOf,List.mem_map,List.mem_filter] at hx
  obtain ⟨e,⟨he,hb⟩,rfl⟩:=hx
  exact hd e (by simpa using he) hb
 ·have hks:k<ops.size:=(Array.getElem?_eq_some_iff.1 ho).1
  have:=List.all_eq_true.1 h5 k (by simpa using hks)
  rw [ho] at this
  simp only [Option.map_some,Option.getD_some,Bool.or_eq_true,decide_eq_true_eq] at this
  exact this.resolve_left (by omega)
section
variable {P:Program} {pins:List Nat} {ops:Array Oper}
theorem splitOk_nw {ops:Array Oper} {L:List (Nat × Nat)} {m:Nat} (h:splitOk ops L m=true) (hn:nwL L=true) {k:Nat} {o:Oper} (hk:k<m) (ho:ops[k]?=some o):Op.mw o.op=false:=by
 unfold splitOk at h
 rw [Bool.and_eq_true,Bool.and_eq_true,Bool.and_eq_true,Bool.and_eq_true,Bool.and_eq_true,hn] at h
 have h1:=h.1.1.1.1.1
 simp only [Bool.not_true,Bool.false_or] at h1
 have h2:=List.all_eq_true.1 h1 k (by simpa using hk)
 rw [ho] at h2
 simpa using h2
structure GoodM (P:Program) (pins:List Nat) (ops:Array Oper) (L:List (Nat × Nat)) (m:Nat) (fs:List Eff) (s0:St):Prop where
 len:fs.length=m
 does:∀ k f o,fs[k]?=some f→ops[k]?=some o→Does P (nwL L) pins ops o f (Dst (fun i=>decide (i<k)) 0 fs s0)
 sep:∀ j k f g,(j,k)∈L→fs[j]?=some f→fs[k]?=some g→sepP (f.rd,f.wi) (g.rd,g.wi)
theorem anyM_sound {L:List (Nat × Nat)} {fs:List Eff} {s0:St} {fr:Fr} {Q:Exit→Act→World→Prop} (hp:fr.pins=pins) {m:Nat} (hok:splitOk ops L m=true) (hg:GoodM P pins ops L m fs s0) (H:∀ (fuel:Nat) (listed:Array Bool) (a:Act) (w:World) (ρ:Pl),listed.size=ops.size→(∀ j,j<ops.size→listed.getD j false=decide (j<m))→unl listed ops.size≤fuel→Rep fr ρ (Dst (fun _=>true) 0 fs s0) a w→wpAny P .any ops Q fuel listed a w) :
  ∀ (fuel:Nat) (listed:Array Bool) (a:Act) (w:World) (ρ:Pl),listed.size=ops.size→(∀ k o,ops[k]?=some o→listed.getD k false=true→∀ e∈o.after,Region.binds .any e=true→listed.getD e.on false=true)→(∀ j,m≤j→listed.getD j false=false) →
   unl listed ops.size≤fuel→Rep fr ρ (Dst (fun i=>listed.getD i false) 0 fs s0) a w→wpAny P .any ops Q fuel listed a w:=by
 have gd:∀ (listed:Array Bool) (i:Nat),listed.size=ops.size→i<ops.size→listed.getD i true=listed.getD i false:=by
  intro listed i hs hi
  have:i<listed.size:=by omega
  simp [this]
 obtain ⟨hm,hdeps,hpairs,hreach,hchain⟩:=splitOk_at hok
 have emp:∀ (listed:Array Bool),listed.size=ops.size→Region.ready .any ops listed=[]→∀ j,j<ops.size→listed.getD j false=true:=by
  intro listed hs hr
  have key:∀ n j,j<n→j<ops.size→listed.getD j false=true:=by
   intro n
   induction n with
   | zero=>intro j hj;omega
   | succ n ih =>
    intro j hj hjs
    cases hl:listed.getD j false with
    | true=>rfl
    | false =>
     exfalso
     have ho:ops[j]?=some ops[j]:=Array.getElem?_eq_getElem hjs
     have:j∈Region.ready .any ops listed:=by
      rw [mem_ready]
      refine ⟨by rw [gd listed j hs hjs];exact hl,_,ho,fun e he hb=>?_⟩
      have:=hdeps j _ ho e he hb
      exact ih e.on (by omega) (by omega)
     rw [hr] at this
     cases this
  exact fun j hj=>key (j+1) j (by omega) hj
 have full:∀ (fuel:Nat) (listed:Array Bool) (a:Act) (w:World) (ρ:Pl),listed.size=ops.size→(∀ j,m≤j→listed.getD j false=false)→(∀ j,j<m→listed.getD j false=true)→unl listed ops.size≤fuel→Rep fr ρ (Dst (fun i=>listed.getD i false) 0 fs s0) a w→wpAny P .any ops Q fuel listed a w:=by
  intro fuel listed a w ρ hs h1 h2 hu hr
  refine H fuel listed a w ρ hs (fun j _=>?_) hu ?_
  ·by_cases hj:j<m
   ·rw [h2 j hj];simp [hj]
   ·rw [h1 j (by omega)];simp;omega
  ·rw [Dst_congr (S:=fun _=>true) (S':=fun i=>listed.getD i false)]
   ·exact hr
   ·intro j hj
    rw [hg.len] at hj
    simp only [Nat.zero_add]
    exact (h2 j hj).symm
 intro fuel
 induction fuel with
 | zero =>
  intro listed a w ρ hs hcl hup hu hrep
  exfalso
  have hmf:=hup m (Nat.le_refl _)
  have:0<unl listed ops.size:=by
   unfold unl
   rw [List.countP_pos_iff]
   exact ⟨m,by simpa using hm,by rw [gd listed m hs hm,hmf];rfl⟩
  omega
 | succ fuel ih =>
  intro listed a w ρ hs hcl hup hu hrep
  by_cases hall:∀ j,j<m→listed.getD j false=true
  ·exact full _ listed a w ρ hs hup hall hu hrep
  refine ⟨fun hr=>absurd (emp listed hs hr m hm) (by rw [hup m (Nat.le_refl _)];simp),fun k hk=>?_⟩
  rw [mem_ready] at hk
  obtain ⟨hk1,o,ho,hdep⟩:=hk
  have hks:k<ops.size:=(Array.getElem?_eq_some_iff.1 ho).1
  have hk0:listed.getD k false=false:=by rw [← gd listed k hs hks];exact hk1
  have hkm:k<m:=by
   rcases Nat.lt_trichotomy k m with h | h | h
   ·exact h
   ·subst h
    exact absurd (hreach o ho listed hcl hdep) hall
   ·exfalso
    have h1:=hchain k o h ho
    unfold ordered at h1
    rw [Array.any_eq_true'] at h1
    obtain ⟨e,he,hb⟩:=h1
    simp only [Bool.and_eq_true,beq_iff_eq] at hb
    have h2:=hdep e he hb.1
    rw [hb.2,hup (k-1) (by omega)] at h2
    cases h2
  have hkl:k<listed.size:=by omega
  obtain ⟨f,hf⟩:∃ f,fs[k]?=some f:=⟨_,List.getElem?_eq_getElem (by rw [hg.len];exact hkm)⟩
  obtain ⟨hd1,hd2,hd3,hd4⟩:=hg.does k f o hf ho
  have hlisted:∀ j,ordered o j=true→listed.getD j false=true:=by
   intro j hj
   unfold ordered at hj
   rw [Array.any_eq_true'] at hj
   obtain ⟨e,he,hb⟩:=hj
   simp only [Bool.and_eq_true,beq_iff_eq] at hb
   rw [← hb.2]
   exact hdep e he hb.1
  have hopen:∀ j x,ops[j]?=some x→ordered x k=true→listed.getD j false=false:=by
   intro j x hx hj
   cases hl:listed.getD j false with
   | false=>rfl
   | true =>
    exfalso
    unfold ordered at hj
    rw [Array.any_eq_true'] at hj
    obtain ⟨e,he,hb⟩:=hj
    simp only [Bool.and_eq_true,beq_iff_eq] at hb
    have:=hcl j x hx hl e he hb.1
    rw [hb.2,hk0] at this
    cases this
  have rel:∀ j g x,j≠k→fs[j]?=some g→ops[j]?=some x→(listed.getD j false=decide (j<k)) ∨
    ((∀ t,g.dst=some t→t∉o.looksAt ops)∧(∀ d,g.dst=some d→f.dst≠some d)∧(∀ i,g.wi=some i→f.rd≠some i∧f.wi≠some i)):=by
   intro j g x hjk hgj hxj
   obtain ⟨hx1,hx2,hx3,_⟩:=hg.does j g x hgj hxj
   rcases Nat.lt_or_gt_of_ne hjk with hlt | hgt
   ·rcases hpairs k o hkm ho j x hlt hxj with h1 | ⟨h1,h2⟩
    ·exact .inl (by rw [hlisted j h1];simp [hlt])
    ·right
     obtain ⟨a1,a2,a3⟩:=Oper.apart_spec h1
     refine ⟨fun t ht=>a1 t (hx1 ▸ ht),fun d hd=>by rw [hd1];exact a2 d (hx1 ▸ hd),fun i hi=>?_⟩
     rcases h2 with h2 | h2
     ·have hxw:Op.mw x.op=true:=hx3 (by rw [hi];simp)
      unfold memOk at h2
      rw [hxw] at h2
      simp only [Bool.true_and,Bool.not_or,Bool.and_eq_true,Bool.not_eq_true'] at h2
      refine ⟨fun hr=>?_,fun hr=>?_⟩
      ·have:=hd2 (by rw [hr];simp)
       rw [this] at h2;exact absurd h2.1.1 (by simp)
      ·have:=hd3 (by rw [hr];simp)
       rw [this] at h2;exact absurd h2.1.2 (by simp)
     ·have h3:=(hg.sep j k g f h2 hgj hf).1
      simp only [hi] at h3
      rcases h3 with h3 | h3
      ·cases h3
      ·exact ⟨fun h=>h3.1 h.symm,fun h=>h3.2 h.symm⟩
   ·have hjm:j<m:=by
     have:=(List.getElem?_eq_some_iff.1 hgj).1
     rwa [hg.len] at this
    rcases hpairs j x hjm hxj k o hgt ho with h1 | ⟨h1,h2⟩
    ·exact .inl (by rw [hopen j x hxj h1];simp;omega)
    ·right
     obtain ⟨a1,a2,a3⟩:=Oper.apart_spec h1
     refine ⟨fun t ht=>a3 t (hx1 ▸ ht),fun d hd hfd=>a2 d (hd1 ▸ hfd) (hx1 ▸ hd),fun i hi=>?_⟩
     rcases h2 with h2 | h2
     ·have hxw:Op.mw x.op=true:=hx3 (by rw [hi];simp)
      unfold memOk at h2
      rw [hxw] at h2
      simp only [Bool.or_true,Bool.and_true,Bool.not_or,Bool.and_eq_true,Bool.not_eq_true'] at h2
      refine ⟨fun hr=>?_,fun hr=>?_⟩
      ·have:=hd2 (by rw [hr];simp)
       rw [this] at h2;exact absurd h2.2 (by simp)
      ·have:=hd3 (by rw [hr];simp)
       rw [this] at h2;exact absurd h2.1 (by simp)
     ·obtain ⟨h4,h3⟩:=hg.sep k j f g h2 hf hgj
      simp only [hi] at h3 h4
      refine ⟨fun h=>?_,fun h=>?_⟩
      ·rcases h3 with h3 | h3
       ·cases h3
       ·exact h3 h.symm
      ·rcases h4 with h4 | h4
       ·rw [h] at h4;cases h4
       ·exact h4.2 h
  have opAt:∀ j g,fs[j]?=some g→∃ x,ops[j]?=some x:=fun j g hj=>by
   have:j<fs.length:=(List.getElem?_eq_some_iff.1 hj).1
   exact ⟨_,Array.getElem?_eq_getElem (by rw [hg.len] at this;omega)⟩
  have henv:∀ t∈o.looksAt ops,(Dst (fun i=>listed.getD i false) 0 fs s0).env[t]?=(Dst (fun i=>decide (i<k)) 0 fs s0).env[t]?:=by
   intro t ht
   refine Dst_env fs 0 s0 s0 rfl fun j g hj hd=>?_
   simp only [Nat.zero_add]
   by_cases hjk:j=k
   ·subst hjk;rw [hk0];simp
   ·obtain ⟨x,hx⟩:=opAt j g hj
    rcases rel j g x hjk hj hx with h1 | h1
    ·exact h1
    ·exact absurd ht (h1.1 t hd)
  have hhp:∀ i,f.rd=some i∨f.wi=some i→(Dst (fun i=>listed.getD i false) 0 fs s0).hp[i]?=(Dst (fun i=>decide (i<k)) 0 fs s0).hp[i]?:=by
   intro i hi
   refine Dst_hp fs 0 s0 s0 rfl fun j g hj hd=>?_
   simp only [Nat.zero_add]
   by_cases hjk:j=k
   ·subst hjk;rw [hk0];simp
   ·obtain ⟨x,hx⟩:=opAt j g hj
    rcases rel j g x hjk hj hx with h1 | h1
    ·exact h1
    ·obtain ⟨h2,h3⟩:=h1.2.2 i hd
     rcases hi with hi | hi
     ·exact absurd hi h2
     ·exact absurd hi h3
  have hnw:nwL L=true→(Dst (fun i=>listed.getD i false) 0 fs s0).hp=(Dst (fun i=>decide (i<k)) 0 fs s0).hp:=by
   intro hn
   have hno:∀ g∈fs,g.wi=none:=by
    intro g hgm
    obtain ⟨j,hj⟩:=List.getElem?_of_mem hgm
    obtain ⟨x,hx⟩:=opAt j g hj
    obtain ⟨_,_,hx3,_⟩:=hg.does j g x hj hx
    have hjm:j<m:=by have:=(List.getElem?_eq_some_iff.1 hj).1;rw [hg.len] at this;exact this
    cases hw:g.wi with
    | none=>rfl
    | some i =>
     have:=hx3 (by rw [hw];simp)
     rw [splitOk_nw hok hn hjm hx] at this
     cases this
   rw [Dst_nw fs 0 s0 hno,Dst_nw fs 0 s0 hno]
  have hins:Dst (fun i=>(listed.setIfInBounds k true).getD i false) 0 fs s0=f.app (Dst (fun i=>listed.getD i false) 0 fs s0):=by
   refine Dst_insert fs k 0 s0 hf (by simpa using hk0) (by simp [hkl]) (fun j hj=>?_) fun j g hj hgj hS=>?_
   ·simp only [Nat.zero_add]
    exact getD_set_ne false (Ne.symm hj)
   ·simp only [Nat.zero_add] at hS
    obtain ⟨x,hx⟩:=opAt j g hgj
    rcases rel j g x (by omega) hgj hx with h1 | h1
    ·rw [h1] at hS;simp at hS;omega
    ·exact ⟨fun d hd hgd=>h1.2.1 d hgd hd,fun i hi hgi=>(h1.2.2 i hgi).2 hi⟩
  have next:∀ a' w',Ends fr (·=f.app (Dst (fun i=>listed.getD i false) 0 fs s0)) a' w'→wpAny P .any ops Q fuel (listed.setIfInBounds k true) a' w':=by
   rintro a' w' ⟨s',ρ',rfl,hrep'⟩
   refine ih _ a' w' ρ' (by simpa using hs) ?_ ?_ ?_ (by rw [hins];exact hrep')
   ·intro j x hx hl e he hb
    by_cases hjk:j=k
    ·subst hjk
     rw [ho] at hx
     cases hx
     exact getD_set_true (hdep e he hb)
    ·rw [getD_set_ne false (Ne.symm hjk)] at hl
     exact getD_set_true (hcl j x hx hl e he hb)
   ·intro j hj
    rw [getD_set_ne false (by omega)]
    exact hup j hj
   ·have:unl (listed.setIfInBounds k true) ops.size<unl listed ops.size:=by
     refine countP_lt (fun i hi h=>?_) ⟨k,by simpa using hks,by rw [hk1];rfl,by simp [hkl]⟩
     by_cases hik:i=k
     ·subst hik;simp [hkl] at h
     ·rw [getD_set_ne true (Ne.symm hik)] at h;exact h
    omega
  unfold wpOp
  rw [ho]
  simp only
  rcases hd4 with ⟨hw,hfit⟩ | ⟨hw,hfe⟩
  ·rw [← wantB_congr henv] at hw
   rw [if_pos (wantB_sound hrep.env hw)]
   refine .inl (Oper.wp_mono next (hfit _ _ (fun x hx=>?_) hhp hnw fr ρ a w Q hp hrep))
   cases x with
   | tmp t =>
    simp only [ev,List.getD_eq_getElem?_getD]
    rw [henv t (List.mem_append_left _ (List.mem_filterMap.2 ⟨.tmp t,hx,rfl⟩))]
   | _=>rfl
  ·rw [← wantB_congr henv] at hw
   rw [if_neg (by rw [wantB_sound hrep.env hw];simp)]
   refine next _ _ ⟨_,ρ,rfl,?_⟩
   have:=hrep.put o.dst (x := .und) (v:=undef) (by simp only [Rp])
   rw [hfe]
   exact this
theorem chain_sound {fr:Fr} (hp:fr.pins=pins) {L:List (Nat × Nat)} {m:Nat} (hok:splitOk ops L m=true) {K:St→Prop} {Q:Exit→Act→World→Prop} (hQ:∀ a w,Ends fr K a w→Q .normal a w) :
  ∀ (rest:List Oper) (i:Nat),m≤i→ops.toList.drop i=rest→∀ (fuel:Nat) (listed:Array Bool) (s:St) (a:Act) (w:World) (ρ:Pl),listed.size=ops.size→(∀ j,j<ops.size→listed.getD j false=decide (j<i))→unl listed ops.size≤fuel →
   Rep fr ρ s a w→opsW P pins ops rest s K→wpAny P .any ops Q fuel listed a w:=by
 obtain ⟨hm,hdeps,hpairs,hreach,hchain⟩:=splitOk_at hok
 have gd:∀ (listed:Array Bool) (i:Nat),listed.size=ops.size→i<ops.size→listed.getD i true=listed.getD i false:=by
  intro listed i hs hi
  have:i<listed.size:=by omega
  simp [this]
 intro rest
 induction rest with
 | nil =>
  intro i hi hrest fuel listed s a w ρ hs hl hu hr hk
  have hsz:ops.size≤i:=by
   have:=congrArg List.length hrest
   simp at this
   omega
  have hnone:Region.ready .any ops listed=[]:=by
   refine List.eq_nil_iff_forall_not_mem.2 fun k hk=>?_
   rw [mem_ready] at hk
   obtain ⟨h1,o,ho,_⟩:=hk
   have hks:k<ops.size:=(Array.getElem?_eq_some_iff.1 ho).1
   rw [gd listed k hs hks,hl k hks] at h1
   simp at h1
   omega
  have hq:Q .normal a w:=hQ a w ⟨s,ρ,hk,hr⟩
  cases fuel with
  | zero=>exact ⟨hnone,hq⟩
  | succ fuel=>exact ⟨fun _=>hq,fun k hk=>by rw [hnone] at hk;cases hk⟩
 | cons o rest ih =>
  intro i hi hrest fuel listed s a w ρ hs hl hu hr hk
  have his:i<ops.size:=by
   rcases Nat.lt_or_ge i ops.size with h | h
   ·exact h
   ·rw [List.drop_eq_nil_of_le (by simpa using h)] at hrest
    cases hrest
  have hoi:ops[i]?=some o:=by
   have h1:(ops.toList.drop i)[0]?=some o:=by rw [hrest];rfl
   rw [List.getElem?_drop] at h1
   simpa using h1
  have hnext:ops.toList.drop (i+1)=rest:=by
   have h1:(ops.toList.drop i).drop 1=rest:=by rw [hrest];rfl
   rw [List.drop_drop] at h1
   exact h1
  have hil:i<listed.size:=by omega
  have hli:listed.getD i true=false:=by rw [gd listed i hs his,hl i his];simp
  have hlt:unl (listed.setIfInBounds i true) ops.size<unl listed ops.size:=by
   refine countP_lt (fun j hj h=>?_) ⟨i,by simpa using his,by rw [hli];rfl,by simp [hil]⟩
   by_cases hik:j=i
   ·subst hik;simp [hil] at h
   ·rw [getD_set_ne true (Ne.symm hik)] at h;exact h
  cases fuel with
  | zero=>omega
  | succ fuel =>
  have hl':∀ j,j<ops.size→(listed.setIfInBounds i true).getD j false=decide (j<i+1):=by
   intro j hj
   by_cases hji:j=i
   ·subst hji;simp [hil]
   ·rw [getD_set_ne false (Ne.symm hji),hl j hj]
    simp only [decide_eq_decide]
    omega
  have go:∀ (s':St) (a':Act) (w':World) (ρ':Pl),Rep fr ρ' s' a' w'→opsW P pins ops rest s' K→wpAny P .any ops Q fuel (listed.setIfInBounds i true) a' w' :=
   fun s' a' w' ρ' hr' hk'=>ih (i+1) (by omega) hnext fuel _ s' a' w' ρ' (by simpa using hs) hl' (by omega) hr' hk'
  refine ⟨fun hn=>?_,fun k hkr=>?_⟩
  ·exfalso
   have:i∈Region.ready .any ops listed:=by
    rw [mem_ready]
    refine ⟨hli,o,hoi,fun e he hb=>?_⟩
    have:=hdeps i o hoi e he hb
    rw [hl e.on (by omega)]
    simpa using this
   rw [hn] at this
   cases this
  ·have hki:k=i:=by
    rw [mem_ready] at hkr
    obtain ⟨h1,x,hx,hd⟩:=hkr
    have hks:k<ops.size:=(Array.getElem?_eq_some_iff.1 hx).1
    rw [gd listed k hs hks,hl k hks] at h1
    have hik:i≤k:=by simpa using h1
    rcases Nat.lt_or_ge i k with h | h
    ·exfalso
     have h2:=hchain k x (by omega) hx
     unfold ordered at h2
     rw [Array.any_eq_true'] at h2
     obtain ⟨e,he,hb⟩:=h2
     simp only [Bool.and_eq_true,beq_iff_eq] at hb
     have h3:=hd e he hb.1
     rw [hb.2,hl (k-1) (by omega)] at h3
     simp at h3
     omega
    ·omega
   subst hki
   unfold wpOp
   rw [hoi]
   simp only
   unfold opsW at hk
   have step:∀ (hw:Region.wanted o (yielded ops a.tmps)=true),(opW P pins o s fun s'=>opsW P pins ops rest s' K)→(if Region.wanted o (yielded ops a.tmps)=true then o.wp P a w (wpAny P .any ops Q fuel (listed.setIfInBounds k true)) Q∨(o.asks P a w∧LetsOut Q) else wpAny P .any ops Q fuel (listed.setIfInBounds k true) (a.put o.dst undef) w):=by
    intro hw hk
    rw [if_pos hw]
    refine .inl (Oper.wp_mono (fun a' w' he=>?_) (opW_sound (Q:=Q) hp hr hk))
    obtain ⟨s',ρ',h2,h3⟩:=he
    exact go s' a' w' ρ' h3 h2
   have skip:∀ (hw:Region.wanted o (yielded ops a.tmps)=false),opsW P pins ops rest (s.ret o.dst .und) K→(if Region.wanted o (yielded ops a.tmps)=true then o.wp P a w (wpAny P .any ops Q fuel (listed.setIfInBounds k true)) Q∨(o.asks P a w∧LetsOut Q) else wpAny P .any ops Q fuel (listed.setIfInBounds k true) (a.put o.dst undef) w):=by
    intro hw hk
    rw [if_neg (by rw [hw];simp)]
    exact go _ _ w ρ (hr.put o.dst (x := .und) (v:=undef) (by simp only [Rp])) hk
   split at hk
   ·rename_i hg
    exact step (by simp [Region.wanted,hg]) hk
   ·rename_i j want hg
    obtain ⟨g1,g2⟩:=guard_sound (ops:=ops) hr.env j
    split at hk
    ·rename_i b hb
     have hy:=g1 b hb
     by_cases hbw:b=want
     ·have h1:=hk.1 hbw
      rw [← hbw,known_eq hb] at h1
      exact step (by simp [Region.wanted,hg,hy,hbw]) h1
     ·have hb2:b=!want:=by cases b <;> cases want <;> simp_all
      have h2:=hk.2 hb2
      rw [← hb2,known_eq hb] at h2
      refine skip ?_ h2
      rw [hb2] at hy
      simp [Region.wanted,hg,hy]
    ·rename_i hb
     have hy:=g2 hb
     exact skip (by simp [Region.wanted,hg,hy]) hk
    ·exact hk.elim
theorem W_regionS (hm:P.follows .mixedOrders=true) {i:Nat} {Q:Exit→St→Prop} {s:St} (m:Nat) (L:List (Nat × Nat)) (hok:splitOk ops L m=true) (h:regV P ops L (ops.toList.take m) s [] fun s'=>opsW P pins ops (ops.toList.drop m) s' (Q .normal)):W P pins (.region i ops true) Q s:=by
 intro fr ρ a w hp hr
 obtain ⟨fs,h1,h2,h3,h4⟩:=regV_steps (pins:=pins) _ _ _ h
 have hms:=(splitOk_at hok).1
 have hlen:fs.length=m:=by
  rw [h1,List.length_take,Array.length_toList];omega
 have hg:GoodM P pins ops L m fs s:=by
  refine ⟨hlen,fun k f o hk ho=>h2 k f o hk ?_,fun j k f g hj hf hg=>?_⟩
  ·have hkm:k<m:=by have:=(List.getElem?_eq_some_iff.1 hk).1;omega
   rw [List.getElem?_take,if_pos hkm]
   simpa using ho
  ·have:=h3 (j,k) hj
   simp only [List.nil_append,List.getElem?_map,hf,hg,Option.map_some] at this
   exact this
 refine wp_region_any hm (anyM_sound (fr:=fr) hp hok hg (fun fuel listed a' w' ρ' hs hl hu hr'=>?_) ops.size _ a _ ρ (by simp) ?_ ?_ ?_ ?_)
 ·exact chain_sound hp hok (fun a w he=>he) _ m (Nat.le_refl _) rfl fuel listed _ a' w' ρ' hs hl hu hr' h4
 ·intro k o ho hl
  simp only [Array.getD_eq_getD_getElem?,Array.getElem?_replicate] at hl
  split at hl <;> simp at hl
 ·intro j _
  simp only [Array.getD_eq_getD_getElem?,Array.getElem?_replicate]
  split <;> rfl
 ·unfold unl
  refine Nat.le_trans List.countP_le_length (by simp)
 ·have:Dst (fun i=>(Array.replicate ops.size false).getD i false) 0 fs s=s:=by
   rw [Dst_congr (S':=fun _=>false) _ _ _ (fun j _=>by
    simp only [Array.getD_eq_getD_getElem?,Array.getElem?_replicate]
    split <;> rfl)]
   have:∀ (l:List Eff) (k:Nat),Dst (fun _=>false) k l s=s:=by
    intro l
    induction l with
    | nil=>intro k;rfl
    | cons g l ih=>intro k;unfold Dst;simp [ih]
   exact this _ _
  rw [this]
  exact hr.heapEq rfl rfl rfl rfl
def thenO (P:Program) (pins:List Nat) (ops:Array Oper) (rest:List Oper) (K:St→Prop):St→Prop:=fun s'=>opsW P pins ops rest s' K
theorem thenO_ap {rest:List Oper} {K:St→Prop} {s:St}:thenO P pins ops rest K s=opsW P pins ops rest s K:=id rfl
theorem W_seqS (hm:P.follows .mixedOrders=true) {i:Nat} {Q:Exit→St→Prop} {y:Code} {s:St} (m:Nat) (L:List (Nat × Nat)) (hok:splitOk ops L m=true) (h:∀ K:St→Prop,(∀ s,W P pins y Q s→K s)→regV P ops L (ops.toList.take m) s [] (thenO P pins ops (ops.toList.drop m) K)):W P pins (.seq (.region i ops true) y) Q s :=
 W_seq (W_regionS hm m L hok (h (W P pins y Q) fun _ h=>h))
theorem W_regS (hm:P.follows .mixedOrders=true) {i:Nat} {Q:Exit→St→Prop} {s:St} (m:Nat) (L:List (Nat × Nat)) (hok:splitOk ops L m=true) (h:∀ K:St→Prop,(∀ s,Q .normal s→K s)→regV P ops L (ops.toList.take m) s [] (thenO P pins ops (ops.toList.drop m) K)):W P pins (.region i ops true) Q s :=
 W_regionS hm m L hok (h (Q .normal) fun _ h=>h)
end
section
variable {P:Program} {pins:List Nat} {ops:Array Oper}
theorem regVT_list {L:List (Nat × Nat)} {fr:Fr} (hp:fr.pins=pins) {K:St→Prop} {Q:Exit→Act→World→Prop} (hQ:∀ a w,Ends fr K a w→Q .normal a w) (tl:List Oper):∀ (l:List Oper) (s:St) (acc:List (Option Nat × Option Nat)) (a:Act) (w:World) (ρ:Pl),Rep fr ρ s a w→regV P ops L l s acc (thenO P pins ops tl K)→wpList P ops Q (l++tl) a w
 | [],s,acc,a,w,ρ,h,hk=>opsW_sound hp hQ tl s a w ρ h hk.2
 | o::rest,s,acc,a,w,ρ,h,hk=>by
  obtain ⟨f,h1,h2,h3,h4,h5⟩:=effW_does (pins:=pins) (s:=s) (o:=o) (ops:=ops) (P:=P) (C0:=fun f s'=>regV P ops L rest (f.app s') (acc++[(f.rd,f.wi)]) (thenO P pins ops tl K)) hk
  rw [List.cons_append]
  unfold wpList
  rcases h5 with ⟨hw,hfit⟩ | ⟨hw,hfe⟩
  ·rw [if_pos (wantB_sound h.env hw)]
   refine .inl (Oper.wp_mono (fun a' w' he=>?_) (hfit _ _ (fun _ _=>rfl) (fun _ _=>rfl) (fun _=>rfl) fr ρ a w Q hp h))
   obtain ⟨s',ρ',rfl,hr⟩:=he
   exact regVT_list hp hQ tl rest _ _ a' w' ρ' hr h1
  ·rw [if_neg (by rw [wantB_sound h.env hw];simp)]
   subst hfe
   exact regVT_list hp hQ tl rest _ _ _ w ρ (h.put o.dst (x := .und) (v:=undef) (by simp only [Rp])) h1
theorem W_regionT {i:Nat} {Q:Exit→St→Prop} {s:St} (m:Nat) (h:regV P ops [] (ops.toList.take m) s [] (thenO P pins ops (ops.toList.drop m) (Q .normal))):W P pins (.region i ops false) Q s:=by
 intro fr ρ a w hp hr
 have h1:=regVT_list (fr:=fr) (Q:=fun e a' w'=>Ends fr (Q e) a' w') hp (fun a w he=>he) (ops.toList.drop m) (ops.toList.take m) s [] a w ρ hr h
 rw [List.take_append_drop] at h1
 exact wp_region_list h1
theorem W_regT {i:Nat} {Q:Exit→St→Prop} {s:St} (m:Nat) (h:∀ K:St→Prop,(∀ s,Q .normal s→K s)→regV P ops [] (ops.toList.take m) s [] (thenO P pins ops (ops.toList.drop m) K)):W P pins (.region i ops false) Q s :=
 W_regionT m (h (Q .normal) fun _ h=>h)
end
theorem Le_nilO {pins:List Nat} {e:List AV} {hp:List Ob} (i r c d:Nat) (T:TypeId) (k:Nat) (pf:Bool) {T0:TypeId} {k0:Nat} {rows:List (List AV)} {row:List AV} (hi:hp[i]?=some (.arr T0 k0 false rows)) (hrow:rows[r]?=some row) (hc:row[c]?=some .nils) (hd:hp[d]?=some .dead) :
  Le pins ⟨e,hp⟩ ⟨e,(hp.set d (.arr T k pf [])).set i (.arr T0 k0 false (rows.set r (row.set c (.sref d 0 0))))⟩:=by
 intro fr ρ a w hpins hr
 have hr':=hr.nilObj (d:=d) hd T k pf
 have hid:i≠d:=fun h=>by rw [h,hd] at hi;cases hi
 have hil:i<hp.length:=(List.getElem?_eq_some_iff.1 hi).1
 refine ⟨_,{ hr' with heap:=fun j=>?_ }⟩
 by_cases hj:j=i
 ·subst hj
  have h0:=hr'.heap j
  rw [show (St.mk e (hp.set d (.arr T k pf []))).hp.getD j .dead = .arr T0 k0 false rows by
   simp only [List.getD_eq_getElem?_getD]
   rw [List.getElem?_set_ne (Ne.symm hid),hi];rfl] at h0
  have hg:(St.mk e ((hp.set d (.arr T k pf [])).set j (.arr T0 k0 false (rows.set r (row.set c (.sref d 0 0)))))).hp.getD j .dead = .arr T0 k0 false (rows.set r (row.set c (.sref d 0 0))):=by
   simp [List.getD_eq_getElem?_getD,hil]
  rw [hg]
  match hp':(ρ.put d (some .nil)) j,h0 with
  | none,h0=>exact h0.elim
  | some .nil,h0 =>
   have:rows=[]:=h0
   rw [this] at hrow;cases hrow
  | some (.mapb b),h0=>exact h0.elim
  | some (.blk b s cap len),h0 =>
   obtain ⟨h1,h2,vss,rest,h3,h4,h5,h6,h7,h8⟩:=h0
   obtain ⟨vs,hv1,hv2⟩:=h4.get hrow
   obtain ⟨v,hv3,hv4⟩:=hv2.get hc
   simp only [Rp] at hv4
   have hsr:Rp w (Av fr.F (ρ.put d (some .nil))) (ρ.put d (some .nil)) (.sref d 0 0) v:=by
    simp only [Rp];exact .inl ⟨Pl.put_same _ _ _,by simp,by simp,hv4⟩
   have e1:vs.set c v=vs:=by
    obtain ⟨hlt,he⟩:=List.getElem?_eq_some_iff.1 hv3
    rw [← he,List.set_getElem_self]
   have e2:vss.set r vs=vss:=by
    obtain ⟨hlt,he⟩:=List.getElem?_eq_some_iff.1 hv1
    rw [← he,List.set_getElem_self]
   have h9:=hv2.set c hsr
   rw [e1] at h9
   have h10:=h4.set r h9
   rw [e2] at h10
   refine ⟨h1,by simpa using h2,vss,rest,h3,h10,?_,h6,by simpa using h7,h8⟩
   intro x hx
   rcases List.mem_or_eq_of_mem_set hx with hx | rfl
   ·exact h5 x hx
   ·rw [List.length_set];exact h5 row (List.mem_of_getElem? hrow)
 ·have h0:=hr'.heap j
  have hg:(St.mk e ((hp.set d (.arr T k pf [])).set i (.arr T0 k0 false (rows.set r (row.set c (.sref d 0 0)))))).hp.getD j .dead=(St.mk e (hp.set d (.arr T k pf []))).hp.getD j .dead:=by
   simp only [List.getD_eq_getElem?_getD]
   rw [List.getElem?_set_ne (Ne.symm hj)]
  rw [hg]
  exact h0
def Mut2 (P:Program) (g:FuncId) (T:TypeId) (k:Nat) (rows:List (List AV)) (off n:Nat) (rest:List AV) (R:AV→List (List AV)→Prop):Prop :=
 ∃ fn c,P.funcs[g]?=some fn∧fn.body=some c∧0<fn.ntmps∧W P [0] c (mutQ2 P fn.results.toList T k R) ⟨.sref 0 off n::AV.datas rest++List.replicate (fn.ntmps-(rest.length+1)) .und,(List.replicate fn.ntmps .dead).set 0 (.arr T k true rows)⟩
theorem mut2_of_W {P:Program} {g:FuncId} {fn:Func} {c:Code} {T:TypeId} {k:Nat} {rows:List (List AV)} {off n:Nat} {rest:List AV} {R:AV→List (List AV)→Prop} (hf:P.funcs[g]?=some fn) (hb:fn.body=some c) {rs:List ResultVar} (hrs:fn.results.toList=rs) {nt:Nat} (hn:fn.ntmps=nt) (hn0:0<nt)
  (h:W P [0] c (mutQ2 P rs T k R) ⟨.sref 0 off n::AV.datas rest++List.replicate (nt-(rest.length+1)) .und,(List.replicate nt .dead).set 0 (.arr T k true rows)⟩):Mut2 P g T k rows off n rest R:=by
 subst hrs;subst hn
 exact ⟨fn,c,hf,hb,hn0,h⟩
theorem call_mut2C {P:Program} {pins:List Nat} {g:FuncId} {s:St} {i off n:Nat} {rest:List AV} {T:TypeId} {k:Nat} {rows:List (List AV)} {R:AV→List (List AV)→Prop} (hm:Mut2 P g T k rows off n rest R) (hi:s.hp[i]?=some (.arr T k true rows)) (hpure:AV.pures rest=true)
  {K:AV→St→Prop} (hk:∀ r rows',R r rows'→K (r.ren i) (s.seth i (.arr T k true rows'))):CallOk P pins g (.sref i off n::rest) s K:=by
 obtain ⟨fn,c,hf,hb,hn0,h⟩:=hm
 exact call_mut2 hf hb rfl rfl hn0 hi hpure h hk
theorem AV.datas_len:∀ l:List AV,(AV.datas l).length=l.length
 | []=>rfl
 | x::l=>by simp only [AV.datas,List.length_cons,AV.datas_len l]
theorem RpR.datas {w:World} {A:Nat→Prop} {ρ:Pl} {l:List (List AV)} {vss:List (List Value)} (h:RpR w A ρ l vss):RpR w A ρ (l.map AV.datas) vss:=by
 refine RpR.mk (by rw [List.length_map];exact h.length) fun i x v hx hv=>?_
 rw [List.getElem?_map] at hx
 cases hl:l[i]? with
 | none=>rw [hl] at hx;cases hx
 | some y =>
  rw [hl] at hx
  cases hx
  obtain ⟨u,hu,hr⟩:=h.get hl
  rw [hv] at hu
  cases hu
  exact Rps.data y hr
theorem Le_datas {pins:List Nat} {e:List AV} {hp:List Ob} (i:Nat) {T:TypeId} {k:Nat} {pf:Bool} {rows:List (List AV)} (hi:hp[i]?=some (.arr T k pf rows)):Le pins ⟨e,hp⟩ ⟨e,hp.set i (.arr T k pf (rows.map AV.datas))⟩:=by
 intro fr ρ a w hpins hr
 have hil:i<hp.length:=(List.getElem?_eq_some_iff.1 hi).1
 refine ⟨ρ,{ hr with heap:=fun j=>?_ }⟩
 by_cases hj:j=i
 ·subst hj
  have h0:=hr.heap j
  rw [show (St.mk e hp).hp.getD j .dead = .arr T k pf rows by simp [List.getD_eq_getElem?_getD,hi]] at h0
  have hg:(St.mk e (hp.set j (.arr T k pf (rows.map AV.datas)))).hp.getD j .dead = .arr T k pf (rows.map AV.datas):=by simp [List.getD_eq_getElem?_getD,hil]
  rw [hg]
  match hp':ρ j,h0 with
  | none,h0=>exact h0.elim
  | some .nil,h0 =>
   have:rows=[]:=h0
   subst this
   exact rfl
  | some (.mapb b),h0=>exact h0.elim
  | some (.blk b s cap len),h0 =>
   obtain ⟨h1,h2,vss,rest,h3,h4,h5,h6,h7,h8⟩:=h0
   refine ⟨h1,by simpa using h2,vss,rest,h3,h4.datas,?_,h6,by simpa using h7,h8⟩
   intro x hx
   obtain ⟨y,hy,rfl⟩:=List.mem_map.1 hx
   rw [AV.datas_len]
   exact h5 y hy
 ·have h0:=hr.heap j
  have hg:(St.mk e (hp.set i (.arr T k pf (rows.map AV.datas)))).hp.getD j .dead=(St.mk e hp).hp.getD j .dead:=by
   simp only [List.getD_eq_getElem?_getD]
   rw [List.getElem?_set_ne (Ne.symm hj)]
  rw [hg]
  exact h0
section
variable {P:Program} {pins:List Nat} {d:Option Tmp} {ty t u:TypeId} {p:String} {a:Array Edge} {g:Option (Nat × Bool)} {s:St} {K:St→Prop}
theorem opW_lookup {m x:Operand} {c:Bool}:(opW P pins ⟨d,.lookup t m x c,ty,p,a,g⟩ s K=(lookW P (tyOf P t) (ev s.env m) (ev s.env x) c s.hp (retK K s d))):=propext Iff.rfl
theorem opF_lookup {nw:Bool} {C:Eff→Prop} {m x:Operand} {c:Bool}:(opF P nw ⟨d,.lookup t m x c,ty,p,a,g⟩ s C=(lookW P (tyOf P t) (ev s.env m) (ev s.env x) c s.hp (valK C d (objOf (ev s.env m))))):=propext Iff.rfl
theorem opW_mapUpdate {m x y:Operand}:(opW P pins ⟨d,.mapUpdate t m x y,ty,p,a,g⟩ s K=(d=none∧putW P (tyOf P t) (ev s.env m) (ev s.env x) (ev s.env y) s K)):=propext Iff.rfl
theorem opW_insert {m x y:Operand}:(opW P pins ⟨d,.insert t m x y,ty,p,a,g⟩ s K=(d=none∧putW P (tyOf P t) (ev s.env m) (ev s.env x) (ev s.env y) s K)):=propext Iff.rfl
theorem opW_makeMap {r:Option Operand}:(opW P pins ⟨d,.makeMap t r,ty,p,a,g⟩ s K=(makeMapW (tyOf P t) d (evo s.env r) s (retK2 K d))):=propext Iff.rfl
theorem opW_range {m:Operand}:(opW P pins ⟨d,.range t m,ty,p,a,g⟩ s K=(rangeW (tyOf P t) d (ev s.env m) s (retK2 K d))):=propext Iff.rfl
theorem opW_next {it:Operand}:(opW P pins ⟨d,.next it false,ty,p,a,g⟩ s K=(nextW (ev s.env it) s (retK2 K d))):=propext Iff.rfl
theorem opW_entry {it:Operand}:(opW P pins ⟨d,.entry it,ty,p,a,g⟩ s K=(entryW (ev s.env it) s (retK K s d))):=propext Iff.rfl
theorem opW_delete {m x:Operand}:(opW P pins ⟨d,.call ⟨.builtin .delete,⟨[m,x]⟩,⟨[t,u]⟩⟩,ty,p,a,g⟩ s K=(delW P (tyOf P t) (ev s.env m) (ev s.env x) s (fun s'=>K (s'.ret d .any)))):=propext Iff.rfl
end
section
variable {P:Program} {hp:List Ob} {s:St} {n0 b:Nat} {hz:Bool} {z:List AV} {kt et:TypeId}
def rowsMO:Ob→Option (List (List AV))
 | .map _ _ rows=>some rows
 | _=>none
theorem rowsM_mp {i:Nat}:rowsM (.mp i) hp=rowsMO (hp.getD i .dead):=by unfold rowsM rowsMO;rfl
theorem rowsM_md {c:Nat} {bs:List Nat} {rows:List (List AV)}:rowsM (.md c bs rows) hp=some rows:=rfl
theorem rowsM_nilmp:rowsM .nilmp hp=some []:=rfl
theorem rowsMO_map {c:Nat} {bs:List Nat} {rows:List (List AV)}:rowsMO (.map c bs rows)=some rows:=rfl
def lookR (P:Program) (et:TypeId) (c:Bool) (rows:List (List AV)) (K:AV→Prop):Option (Option Nat)→Prop
 | some (some j)=>K (if c then .tup [(rows.getD j []).getD 1 .any,.bool true] else (rows.getD j []).getD 1 .any)
 | some none=>K (if c then .tup [(tyOf P et).zero.headD .any,.bool false] else (tyOf P et).zero.headD .any)
 | none=>False
def lookO (P:Program) (kt et:TypeId) (x:AV) (c:Bool) (K:AV→Prop):Option (List (List AV))→Prop
 | some rows=>zok P et=true∧isKeyA (tyOf P kt).d x=true∧lookR P et c rows K (findA (tyOf P kt).d x rows 0)
 | none=>False
theorem lookW_map {m x:AV} {c:Bool} {K:AV→Prop}:lookW P ⟨.map kt et,n0,b,hz,z⟩ m x c hp K=lookO P kt et x c K (rowsM m hp):=by
 unfold lookW lookO
 dsimp only
 cases rowsM m hp with
 | none=>rfl
 | some rows=>rfl
theorem lookO_some {x:AV} {c:Bool} {K:AV→Prop} {rows:List (List AV)}:lookO P kt et x c K (some rows)=(zok P et=true∧isKeyA (tyOf P kt).d x=true∧lookR P et c rows K (findA (tyOf P kt).d x rows 0)):=rfl
theorem lookR_yes {c:Bool} {K:AV→Prop} {rows:List (List AV)} {j:Nat}:lookR P et c rows K (some (some j))=K (if c then .tup [(rows.getD j []).getD 1 .any,.bool true] else (rows.getD j []).getD 1 .any):=rfl
theorem lookR_no {c:Bool} {K:AV→Prop} {rows:List (List AV)}:lookR P et c rows K (some none)=K (if c then .tup [(tyOf P et).zero.headD .any,.bool false] else (tyOf P et).zero.headD .any):=rfl
def putR (i clock:Nat) (births:List Nat) (rows:List (List AV)) (x y:AV) (s:St) (K:St→Prop):Option (Option Nat)→Prop
 | some (some j)=>K (s.seth i (.map clock births (rows.set j [x,y])))
 | some none=>K (s.seth i (.map (clock+1) (births++[clock]) (rows++[[x,y]])))
 | none=>False
def putO (P:Program) (kt:TypeId) (i:Nat) (x y:AV) (s:St) (K:St→Prop):Ob→Prop
 | .map clock births rows=>isKeyA (tyOf P kt).d x=true∧y.pure=true∧putR i clock births rows x y s K (findA (tyOf P kt).d x rows 0)
 | _=>False
theorem putW_mp {i:Nat} {x y:AV} {K:St→Prop}:putW P ⟨.map kt et,n0,b,hz,z⟩ (.mp i) x y s K=putO P kt i x y s K (s.hp.getD i .dead):=by
 unfold putW putO putR
 rfl
theorem putO_map {i clock:Nat} {births:List Nat} {rows:List (List AV)} {x y:AV} {K:St→Prop}:putO P kt i x y s K (.map clock births rows)=(isKeyA (tyOf P kt).d x=true∧y.pure=true∧putR i clock births rows x y s K (findA (tyOf P kt).d x rows 0)):=rfl
theorem putR_yes {i clock:Nat} {births:List Nat} {rows:List (List AV)} {x y:AV} {K:St→Prop} {j:Nat}:putR i clock births rows x y s K (some (some j))=K (s.seth i (.map clock births (rows.set j [x,y]))):=rfl
theorem putR_no {i clock:Nat} {births:List Nat} {rows:List (List AV)} {x y:AV} {K:St→Prop}:putR i clock births rows x y s K (some none)=K (s.seth i (.map (clock+1) (births++[clock]) (rows++[[x,y]]))):=rfl
theorem makeMapW_none {d:Nat} {K:AV→St→Prop}:makeMapW ⟨.map kt et,n0,b,hz,z⟩ (some d) none s K=(dead s d∧K (.mp d) (s.seth d (.map 0 [] []))):=rfl
theorem makeMapW_some {d:Nat} {q:IntKind} {n:Int} {K:AV→St→Prop}:makeMapW ⟨.map kt et,n0,b,hz,z⟩ (some d) (some (.int q n)) s K=(dead s d∧K (.mp d) (s.seth d (.map 0 [] []))):=rfl
theorem isKeyA_int {q:IntKind} {n:Int}:isKeyA (.int q) (.int q n)=true:=by simp [isKeyA]
theorem isKeyA_str {v:ByteArray}:isKeyA .str (.str v)=true:=rfl
def mapMO:Ob→Option (Nat × List Nat × List (List AV))
 | .map clock births rows=>some (clock,births,rows)
 | _=>none
theorem mapM_mp {i:Nat}:mapM (.mp i) hp=mapMO (hp.getD i .dead):=by unfold mapM mapMO;rfl
theorem mapM_md {c:Nat} {bs:List Nat} {rows:List (List AV)}:mapM (.md c bs rows) hp=some (c,bs,rows):=rfl
theorem mapMO_map {c:Nat} {bs:List Nat} {rows:List (List AV)}:mapMO (.map c bs rows)=some (c,bs,rows):=rfl
def rangeO (d:Nat) (m:AV) (s:St) (K:AV→St→Prop):Option (Nat × List Nat × List (List AV))→Prop
 | some (clock,_,_)=>dead s d∧K (.it d) (s.seth d (.iter m clock [] clock))
 | none=>False
theorem rangeW_map {d:Nat} {m:AV} {K:AV→St→Prop}:rangeW ⟨.map kt et,n0,b,hz,z⟩ (some d) m s K=rangeO d m s K (mapM m s.hp):=by
 unfold rangeW rangeO
 dsimp only
 cases mapM m s.hp <;> rfl
theorem rangeO_some {d c:Nat} {m:AV} {bs:List Nat} {rows:List (List AV)} {K:AV→St→Prop}:rangeO d m s K (some (c,bs,rows))=(dead s d∧K (.it d) (s.seth d (.iter m c [] c))):=rfl
def nextR (i:Nat) (m:AV) (since:Nat) (seen:List Nat) (stepped:Nat) (s:St) (K:AV→St→Prop):Option (Nat × List Nat × List (List AV))→Prop
 | some (clock,births,rows)=>since≤stepped∧(∀ x∈births,x<since)∧((∀ x∈births,x∈seen)→K (.tup [.bool false]) s) ∧
   (∀ (j:Nat) (x:Nat),births[j]?=some x→x∉seen→K (.tup [.bool true,(rows.getD j []).getD 0 .any,(rows.getD j []).getD 1 .any]) (s.seth i (.iter m since (seen++[x]) clock)))
 | none=>False
def nextO (i:Nat) (s:St) (K:AV→St→Prop):Ob→Prop
 | .iter m since seen stepped=>nextR i m since seen stepped s K (mapM m s.hp)
 | _=>False
theorem nextW_it {i:Nat} {K:AV→St→Prop}:nextW (.it i) s K=nextO i s K (s.hp.getD i .dead):=by
 unfold nextW nextO nextR
 rfl
theorem nextO_iter {i since stepped:Nat} {m:AV} {seen:List Nat} {K:AV→St→Prop}:nextO i s K (.iter m since seen stepped)=nextR i m since seen stepped s K (mapM m s.hp):=rfl
theorem nextR_some {i since stepped clock:Nat} {m:AV} {seen births:List Nat} {rows:List (List AV)} {K:AV→St→Prop}:nextR i m since seen stepped s K (some (clock,births,rows))=(since≤stepped∧(∀ x∈births,x<since)∧((∀ x∈births,x∈seen)→K (.tup [.bool false]) s) ∧
   (∀ (j:Nat) (x:Nat),births[j]?=some x→x∉seen→K (.tup [.bool true,(rows.getD j []).getD 0 .any,(rows.getD j []).getD 1 .any]) (s.seth i (.iter m since (seen++[x]) clock)))):=rfl
def entR (seen:List Nat) (stepped:Nat) (K:AV→Prop):Option (Nat × List Nat × List (List AV))→Prop
 | some (clock,births,rows)=>clock=stepped∧∃ (j x:Nat),seen.getLast?=some x∧births[j]?=some x∧K (.tup [(rows.getD j []).getD 0 .any,(rows.getD j []).getD 1 .any])
 | none=>False
def entO (s:St) (K:AV→Prop):Ob→Prop
 | .iter m since seen stepped=>entR seen stepped K (mapM m s.hp)
 | _=>False
theorem entryW_it {i:Nat} {K:AV→Prop}:entryW (.it i) s K=entO s K (s.hp.getD i .dead):=by
 unfold entryW entO entR
 rfl
theorem entO_iter {since stepped:Nat} {m:AV} {seen:List Nat} {K:AV→Prop}:entO s K (.iter m since seen stepped)=entR seen stepped K (mapM m s.hp):=rfl
theorem entR_some {stepped clock:Nat} {seen births:List Nat} {rows:List (List AV)} {K:AV→Prop}:entR seen stepped K (some (clock,births,rows))=(clock=stepped∧∃ (j x:Nat),seen.getLast?=some x∧births[j]?=some x∧K (.tup [(rows.getD j []).getD 0 .any,(rows.getD j []).getD 1 .any])):=rfl
def delR (i clock:Nat) (births:List Nat) (rows:List (List AV)) (s:St) (K:St→Prop):Option (Option Nat)→Prop
 | some (some j)=>K (s.seth i (.map clock (births.eraseIdx j) (rows.eraseIdx j)))
 | some none=>K (s.seth i (.map clock births rows))
 | none=>False
def delO (P:Program) (kt:TypeId) (i:Nat) (x:AV) (s:St) (K:St→Prop):Ob→Prop
 | .map clock births rows=>isKeyA (tyOf P kt).d x=true∧delR i clock births rows s K (findA (tyOf P kt).d x rows 0)
 | _=>False
theorem delW_mp {i:Nat} {x:AV} {K:St→Prop}:delW P ⟨.map kt et,n0,b,hz,z⟩ (.mp i) x s K=delO P kt i x s K (s.hp.getD i .dead):=by
 unfold delW delO delR
 rfl
theorem delO_map {i clock:Nat} {births:List Nat} {rows:List (List AV)} {x:AV} {K:St→Prop}:delO P kt i x s K (.map clock births rows)=(isKeyA (tyOf P kt).d x=true∧delR i clock births rows s K (findA (tyOf P kt).d x rows 0)):=rfl
theorem delR_yes {i clock:Nat} {births:List Nat} {rows:List (List AV)} {K:St→Prop} {j:Nat}:delR i clock births rows s K (some (some j))=K (s.seth i (.map clock (births.eraseIdx j) (rows.eraseIdx j))):=rfl
theorem delR_no {i clock:Nat} {births:List Nat} {rows:List (List AV)} {K:St→Prop}:delR i clock births rows s K (some none)=K (s.seth i (.map clock births rows)):=rfl
end
end Go.Proofs.YtjmpajgjaefcjaaGreat.Vm
namespace Go.Proofs.YtjmpajgjaefcjaaGreat.Vm
open Go Go.RowKit
def NewMA (base:Nat) (w:World) (F:Nat→Prop) (clock:Nat) (births:List Nat) (rows:List (List AV)) (v:Value):Prop :=
 ∃ b ents,base≤b∧v = .map (some b)∧w.heap[b]?=some (.map ents clock)∧ents.toList.map (·.born)=births∧Births clock births∧RpR w (fun c=>F c∨c=b) noPl rows (entRows ents)
abbrev MapR:=Option (Nat × List Nat × List (List AV))
def NewMV (base:Nat) (w:World) (F:Nat→Prop) (v:Value):MapR→Prop
 | none=>v = .tuple #[.map none,.bool false]
 | some (clock,births,rows)=>∃ m,v = .tuple #[m,.bool true]∧NewMA base w F clock births rows m
def NewMB (P:Program) (g:FuncId) (args:List AV) (R:MapR→Prop):Prop :=
 ∀ (w:World) (vals:List Value) (F:Nat→Prop),(∀ k,F k→k<w.heap.size)→Rps w F noPl args vals →
  Calls P g vals.toArray w fun e w'=>∃ v r,e = .returned v∧R r∧Below w.heap.size w w'∧NewMV w.heap.size w' F v r
def newMK (R:MapR→Prop) (hp:List Ob):AV→Prop
 | .tup [.nilmp,.bool false]=>R none
 | .tup [.mp i,.bool true]=>∃ clock births rows,hp[i]?=some (.map clock births rows)∧R (some (clock,births,rows))
 | _=>False
def newMQ (P:Program) (rs:List ResultVar) (R:MapR→Prop):Exit→St→Prop
 | .normal,s=>resW P s rs fun xs=>newMK R s.hp (asOne xs)
 | .ret,s=>resW P s rs fun xs=>newMK R s.hp (asOne xs)
 | _,_=>False
theorem newMB_of_W {P:Program} {g:FuncId} {fn:Func} {c:Code} {args:List AV} {R:MapR→Prop} (hf:P.funcs[g]?=some fn) (hb:fn.body=some c) {rs:List ResultVar} (hrs:fn.results.toList=rs) {nt:Nat} (hn:fn.ntmps=nt)
  (h:W P [] c (newMQ P rs R) ⟨args++List.replicate (nt-args.length) .und,List.replicate nt .dead⟩):NewMB P g args R:=by
 subst hrs;subst hn
 intro w vals F hF hv
 have hlen:=hv.length
 refine calls_of_wp hf hb ?_
 let fr:Fr:=⟨w.heap.size,w,F,fun _=>False,[],noPl,fun _ _ h=>h⟩
 have hA:Av F noPl=F:=by
  funext k
  simp [Av,noPl]
 have hrep:Rep fr noPl ⟨args++List.replicate (fn.ntmps-args.length) .und,List.replicate fn.ntmps .dead⟩ { tmps:=vals.toArray++Array.replicate (fn.ntmps-vals.toArray.size) undef,defers:=[] } w:=by
  refine { keep:=⟨rfl,rfl,rfl,Nat.le_refl _,fun _ _ _=>rfl⟩,base:=Nat.le_refl _,defers:=rfl,heap:=fun i=>?_,inj:=(fun i j p q b hi=>by cases hi),mine:=(fun i p b hi=>by cases hi),fF:=hF,pin:=(fun i hi=>by cases hi),env:=?_ }
  ·show HRo _ _ _ ((List.replicate fn.ntmps Ob.dead).getD i .dead) _
   rw [show (List.replicate fn.ntmps Ob.dead).getD i .dead = .dead by
    rw [List.getD_eq_getElem?_getD,List.getElem?_replicate];split <;> rfl]
   rfl
  ·show Rps w (Av F noPl) noPl _ _
   rw [hA]
   have h1:(vals.toArray++Array.replicate (fn.ntmps-vals.toArray.size) undef).toList=vals++List.replicate (fn.ntmps-args.length) undef:=by
    simp [hlen]
   rw [h1]
   refine hv.append (Rps.mk (by simp) fun i x v hx hv=>?_)
   rw [List.getElem?_replicate] at hx hv
   split at hx
   ·rename_i hi;rw [if_pos hi] at hv;cases hx;cases hv;simp only [Rp]
   ·cases hx
 refine Code.wp_mono (fun e a' w' he=>?_) (h fr noPl _ w rfl hrep)
 obtain ⟨s,ρ,hq,hr⟩:=he
 have fin:resW P s fn.results.toList (fun xs=>newMK R s.hp (asOne xs))→a'.defers=[]∧∃ v,(results fn a'.tmps).run P w' = .ok v w'∧∃ v2 r,Ending.returned v = .returned v2∧R r∧Below w.heap.size w w'∧NewMV w.heap.size w' F v2 r:=by
  intro hk
  obtain ⟨xs,v,h1,h2,h3⟩:=results_sound hr fn hk
  have hbel:Below w.heap.size w w':=⟨hr.keep.os,hr.keep.tape,hr.keep.output,hr.keep.size,fun k hk=>hr.keep.block k hk (fun h=>h)⟩
  refine ⟨hr.defers,v,h2,?_⟩
  generalize asOne xs=x at h1 h3
  unfold newMK at h1
  split at h1
  ·simp only [Rp,Rps] at h3
   obtain ⟨vs,rfl,_,_,rfl,rfl,_,_,rfl,rfl,rfl⟩:=h3
   exact ⟨_,none,rfl,h1,hbel,rfl⟩
  ·rename_i i
   obtain ⟨clock,births,rows,hi,hR⟩:=h1
   have ho:=hr.heap i
   rw [show s.hp.getD i .dead = .map clock births rows by simp [List.getD_eq_getElem?_getD,hi]] at ho
   simp only [Rp,Rps] at h3
   obtain ⟨vs,rfl,_,_,rfl,⟨b,g1,rfl⟩,_,_,rfl,rfl,rfl⟩:=h3
   rw [g1] at ho
   obtain ⟨ents,e1,e2,e3,e4⟩:=ho
   refine ⟨_,some (clock,births,rows),rfl,hR,hbel,_,rfl,b,ents,?_,rfl,e1,e2,e3,?_⟩
   ·rcases hr.mine i _ b g1 rfl with h4 | h4
    ·exact h4
    ·exact absurd h4.1 (by simp [fr])
   ·exact RpR.later (ρ:=noPl) _ ⟨Nat.le_refl _,fun c _ hc=>by
     rcases hc with hc | rfl
     ·exact .inl hc
     ·exact .inr ⟨i,_,g1,rfl⟩,fun _ _ _=>rfl,fun _ _ h=>h⟩ e4
  ·exact h1.elim
 cases e with
 | normal=>exact fin hq
 | ret=>exact fin hq
 | _=>exact hq.elim
theorem Rep.adoptM {fr:Fr} {ρ:Pl} {s:St} {a:Act} {w w':World} (h0:Rep fr ρ s a w) (hbel:Below w.heap.size w w') {d:Nat} (hd:s.hp[d]?=some .dead) {clock:Nat} {births:List Nat} {rows:List (List AV)} {v:Value}
  (hn:NewMA w.heap.size w' (Av fr.F ρ) clock births rows v):∃ ρ',Rep fr ρ' ⟨s.env,s.hp.set d (.map clock births rows)⟩ a w'∧Rp w' (Av fr.F ρ') ρ' (.mp d) v:=by
 obtain ⟨h,hlat0⟩:=h0.below hbel
 have hdl:d<s.hp.length:=(List.getElem?_eq_some_iff.1 hd).1
 have hρd:ρ d=none:=by
  have:=h.heap d
  rw [show s.hp.getD d .dead = .dead by simp [List.getD_eq_getElem?_getD,hd]] at this
  exact this
 obtain ⟨b,ents,hb,rfl,e1,e2,e3,e4⟩:=hn
 let p0:Place := .mapb b
 have hbw:b<w'.heap.size:=(Array.getElem?_eq_some_iff.1 e1).1
 have hnew:∀ i q c,ρ i=some q→q.block=some c→c<w.heap.size:=fun i q c hq hc=>h0.lt hq hc
 have hav:∀ k',k'<w'.heap.size→k'≠b→Av fr.F (ρ.put d (some p0)) k'→Av fr.F ρ k':=by
  rintro k' _ hkb (h1 | ⟨i,p,h1,h2⟩)
  ·exact .inl h1
  ·by_cases hi:i=d
   ·subst hi;rw [Pl.put_same] at h1;cases h1;simp [Place.block,p0] at h2;omega
   ·rw [Pl.put_ne _ _ hi] at h1;exact .inr ⟨i,p,h1,h2⟩
 have hlat:Later w (Av fr.F ρ) ρ w' (Av fr.F (ρ.put d (some p0))) (ρ.put d (some p0)) :=
  ⟨hbel.size,fun k' hk'=>hav k' (Nat.lt_of_lt_of_le hk' hbel.size) (by omega),fun k' hk' _=>hbel.block k' hk',fun i p hp=>by
   by_cases hi:i=d
   ·subst hi;rw [hρd] at hp;cases hp
   ·rw [Pl.put_ne _ _ hi];exact hp⟩
 refine ⟨ρ.put d (some p0),{ keep:=h.keep,base:=h.base,defers:=h.defers,heap:=fun i=>?_,inj:=?_,mine:=?_,fF:=h.fF,pin:=fun i hi=>?_,env:=h0.env.later _ hlat },?_⟩
 ·by_cases hi:i=d
  ·subst hi
   rw [getD_set_same _ _ _ _ hdl,Pl.put_same]
   refine ⟨ents,e1,e2,e3,RpR.later (ρ:=noPl) _ ⟨Nat.le_refl _,fun c hc hc2=>?_,fun _ _ _=>rfl,fun _ _ h=>h⟩ e4⟩
   by_cases hcb:c=b
   ·exact .inr hcb
   ·exact .inl (hav c hc hcb hc2)
  ·show HRo _ _ _ ((s.hp.set d (.map clock births rows)).getD i .dead) _
   rw [getD_set_other _ _ _ _ _ hi,Pl.put_ne _ _ hi]
   exact (h0.heap i).later hlat fun q c hq hc=>hbel.block c (h0.lt hq hc)
 ·intro i j p q c hi hj hp hq
  by_cases hid:i=d
  ·by_cases hjd:j=d
   ·rw [hid,hjd]
   ·subst hid
    rw [Pl.put_same] at hi
    cases hi
    rw [Pl.put_ne _ _ hjd] at hj
    simp [Place.block,p0] at hp
    have:=hnew _ _ _ hj hq
    omega
  ·rw [Pl.put_ne _ _ hid] at hi
   by_cases hjd:j=d
   ·subst hjd
    rw [Pl.put_same] at hj
    cases hj
    simp [Place.block,p0] at hq
    have:=hnew _ _ _ hi hp
    omega
   ·rw [Pl.put_ne _ _ hjd] at hj
    exact h.inj i j p q c hi hj hp hq
 ·intro i p c hi hp
  by_cases hid:i=d
  ·subst hid
   rw [Pl.put_same] at hi
   cases hi
   simp [Place.block,p0] at hp
   subst hp
   exact .inl (Nat.le_trans h0.base hb)
  ·rw [Pl.put_ne _ _ hid] at hi
   exact h.mine i p c hi hp
 ·by_cases hid:i=d
  ·subst hid;exact absurd hρd (h.pin i hi).2
  ·rw [Pl.put_ne _ _ hid];exact h.pin i hi
 ·simp only [Rp,Pl.put_same]
  exact ⟨b,rfl,rfl⟩
theorem call_newMB {P:Program} {pins:List Nat} {g:FuncId} {avs:List AV} {s:St} {K:AV→St→Prop} {R:MapR→Prop} (d:Nat) (hd:s.hp[d]?=some .dead) (ha:AV.pures avs=true) (hnew:NewMB P g (AV.datas avs) R)
  (hk0:R none→K (.tup [.nilmp,.bool false]) s) (hk1:∀ clock births rows,R (some (clock,births,rows))→K (.tup [.mp d,.bool true]) (s.seth d (.map clock births rows))):CallOk P pins g avs s K:=by
 intro fr ρ a w vals hp hr hv
 refine (hnew w vals (Av fr.F ρ) ?_ (Rps.data avs (Rps.pure noPl avs ha hv))).mono fun e w' he=>?_
 ·rintro k (hk | ⟨i,p,h1,h2⟩)
  ·exact Nat.lt_of_lt_of_le (hr.fF k hk) hr.base
  ·exact hr.lt h1 h2
 obtain ⟨v,r,h1,h2,h3,h4⟩:=he
 match r,h2,h4 with
 | none,h2,h4 =>
  have h4':v = .tuple #[.map none,.bool false]:=h4
  refine ⟨v,_,s,ρ,h1,hk0 h2,(hr.below h3).1,?_⟩
  subst h4'
  simp only [Rp,Rps]
  exact ⟨_,rfl,_,_,rfl,rfl,_,_,rfl,rfl,rfl⟩
 | some (clock,births,rows),h2,h4 =>
  obtain ⟨m,rfl,h5⟩:=h4
  obtain ⟨ρ',h6,h7⟩:=hr.adoptM h3 hd h5
  refine ⟨_,_,_,ρ',h1,hk1 _ _ _ h2,h6,?_⟩
  simp only [Rp,Rps] at h7 ⊢
  exact ⟨_,rfl,_,_,rfl,h7,_,_,rfl,rfl,rfl⟩
theorem NewMB.pure {P:Program} {g:FuncId} {args:List AV} {R:MapR→Prop} (h:NewMB P g args R):Pure P g args (fun r=>(R none∧r = .tup [.nilmp,.bool false])∨∃ clock births rows,R (some (clock,births,rows))∧r = .tup [.md clock births rows,.bool true]):=by
 intro w vals F hF hv
 refine (h w vals F hF hv).mono fun e w' he=>?_
 obtain ⟨v,r,h1,h2,h3,h4⟩:=he
 match r,h2,h4 with
 | none,h2,h4 =>
  have h4':v = .tuple #[.map none,.bool false]:=h4
  refine ⟨v,_,h1,.inl ⟨h2,rfl⟩,h3,?_⟩
  subst h4'
  simp only [Rp,Rps]
  exact ⟨_,rfl,_,_,rfl,rfl,_,_,rfl,rfl,rfl⟩
 | some (clock,births,rows),h2,h4 =>
  obtain ⟨m,rfl,b,ents,hb,rfl,e1,e2,e3,e4⟩:=h4
  refine ⟨_,_,h1,.inr ⟨_,_,_,h2,rfl⟩,h3,?_⟩
  simp only [Rp,Rps]
  refine ⟨_,rfl,_,_,rfl,⟨b,ents,rfl,fun hFb=>?_,(Array.getElem?_eq_some_iff.1 e1).1,e1,e2,e3,RpR.later (ρ:=noPl) _ ⟨Nat.le_refl _,fun c _ hc => .inl hc,fun _ _ _=>rfl,fun _ _ h=>h⟩ e4⟩,_,_,rfl,rfl,rfl⟩
  have:=hF b hFb
  omega
theorem Le_freezeM {pins:List Nat} {e e':List AV} {hp hp':List Ob} (i j:Nat) {clock:Nat} {births:List Nat} {rows:List (List AV)} (hi:hp[i]?=some (.map clock births rows)) (hj:e[j]?=some (.mp i)) (hpin:i∉pins)
  (h:leE (e.set j .any) e') (hh:leH pins 0 hp hp') (hd:hp'.getD i .dead = .dead) (hn:AV.nameds hp' e'=true) (ho:obsOk hp'=true):Le pins ⟨e,hp⟩ ⟨e'.set j (.md clock births rows),hp'⟩:=by
 intro fr ρ a w hpins hr
 subst hpins
 have hv:=hr.env.get hj
 obtain ⟨v,hv1,hv2⟩:=hv
 simp only [Rp] at hv2
 obtain ⟨b,hb1,rfl⟩:=hv2
 have hm:=hr.heap i
 rw [show (St.mk e hp).hp.getD i .dead = .map clock births rows by simp [List.getD_eq_getElem?_getD,hi],hb1] at hm
 obtain ⟨ents,g1,g2,g3,g4⟩:=hm
 have hr1:Rep fr ρ ⟨e.set j .any,hp⟩ a w:=by
  refine hr.weak (Rps.mk (by rw [List.length_set];exact hr.env.length) fun k x u hk hu=>?_)
  rw [List.getElem?_set] at hk
  split at hk
  ·split at hk
   ·cases hk;simp only [Rp]
   ·cases hk
  ·obtain ⟨u',hu',hx⟩:=hr.env.get hk
   rw [hu] at hu';cases hu';exact hx
 obtain ⟨ρ',hsub,hr2⟩:=hr1.drop h hh hn ho
 have hlive:live hp' i=false:=by simp only [live,hd]
 have hfree:¬ Av fr.F ρ' b:=by
  rintro (h1 | ⟨k,p,h1,h2⟩)
  ·rcases hr.mine i _ b hb1 rfl with h3 | h3
   ·have:=hr.fF b h1;omega
   ·exact hpin h3.1
  ·obtain ⟨h3,h4⟩:=hsub k p h1
   have:=hr.inj k i p _ b h3 hb1 h2 rfl
   subst this
   rw [hlive] at h4
   cases h4
 have hlat:Later w (Av fr.F ρ) noPl w (Av fr.F ρ') noPl:=⟨Nat.le_refl _,fun k _ hk=>by
  rcases hk with h1 | ⟨k',p,h1,h2⟩
  ·exact .inl h1
  ·exact .inr ⟨k',p,(hsub k' p h1).1,h2⟩,fun _ _ _=>rfl,fun _ _ h=>h⟩
 refine ⟨ρ',hr2.weak ?_⟩
 have hx:Rp w (Av fr.F ρ') ρ' (.md clock births rows) (.map (some b)):=by
  simp only [Rp]
  exact ⟨b,ents,rfl,hfree,hr.lt hb1 rfl,g1,g2,g3,RpR.later (ρ:=noPl) _ hlat g4⟩
 have:=hr2.env.set j hx
 rw [show a.tmps.toList.set j (.map (some b))=a.tmps.toList by
  refine List.ext_getElem? fun k=>?_
  rw [List.getElem?_set]
  split
  ·rename_i hk
   subst hk
   rw [if_pos (List.getElem?_eq_some_iff.1 hv1).1,hv1]
  ·rfl] at this
 exact this
theorem froz_mp {i:Nat} {rows:List (List AV)} {j:Nat}:AV.froz i rows (.mp j)=(if j=i then .any else .mp j):=by simp only [AV.froz]
theorem froz_it {i:Nat} {rows:List (List AV)} {j:Nat}:AV.froz i rows (.it j)=(if j=i then .any else .it j):=by simp only [AV.froz]
theorem froz_md {i:Nat} {rows:List (List AV)} {c:Nat} {bs:List Nat} {rs:List (List AV)}:AV.froz i rows (.md c bs rs) = .md c bs rs:=by simp only [AV.froz]
theorem froz_map {i:Nat} {rows:List (List AV)} {c:Nat} {bs:List Nat} {rs:List (List AV)}:Ob.froz i rows (.map c bs rs) = .map c bs rs:=id rfl
theorem froz_iter {i:Nat} {rows:List (List AV)} {m:AV} {a c:Nat} {bs:List Nat}:Ob.froz i rows (.iter m a bs c) = .iter (m.froz i rows) a bs c:=id rfl
theorem kill_mp {i:Nat} {j:Nat}:AV.kill i (.mp j)=(if j=i then .any else .mp j):=by simp only [AV.kill]
theorem kill_it {i:Nat} {j:Nat}:AV.kill i (.it j)=(if j=i then .any else .it j):=by simp only [AV.kill]
theorem kill_md {i:Nat} {c:Nat} {bs:List Nat} {rs:List (List AV)}:AV.kill i (.md c bs rs) = .md c bs rs:=by simp only [AV.kill]
theorem kill_map {i:Nat} {c:Nat} {bs:List Nat} {rs:List (List AV)}:Ob.kill i (.map c bs rs) = .map c bs rs:=id rfl
theorem kill_iter {i:Nat} {m:AV} {a c:Nat} {bs:List Nat}:Ob.kill i (.iter m a bs c) = .iter (m.kill i) a bs c:=id rfl
theorem cst_nilmp:cstV (.map none) = .nilmp:=id rfl
end Go.Proofs.YtjmpajgjaefcjaaGreat.Vm
namespace Go.Proofs.YtjmpajgjaefcjaaGreat.Vm
open Go
def val:List Nat→Nat
 | []=>0
 | x::l=>x+4294967296*val l
def Limbs (l:List Nat):Prop:=∀ x∈l,x<4294967296
def limbs (n:Nat):List Nat:=if h:n=0 then [] else (n%4294967296)::limbs (n / 4294967296)
 termination_by n
 decreasing_by omega
def cN (n:Nat):AV:=cNat (limbs n)
theorem limbs_zero:limbs 0=[]:=by unfold limbs;simp
theorem limbs_pos {n:Nat} (h:n≠0):limbs n=(n%4294967296)::limbs (n / 4294967296):=by
 conv=>lhs;unfold limbs
 simp [h]
theorem limbs_limbs (n:Nat):Limbs (limbs n):=by
 induction n using Nat.strongRecOn with
 | _ n ih =>
  by_cases h:n=0
  ·subst h;rw [limbs_zero];intro x hx;cases hx
  ·rw [limbs_pos h]
   intro x hx
   rcases List.mem_cons.1 hx with rfl | hx
   ·omega
   ·exact ih _ (by omega) x hx
theorem val_limbs (n:Nat):val (limbs n)=n:=by
 induction n using Nat.strongRecOn with
 | _ n ih =>
  by_cases h:n=0
  ·subst h;rw [limbs_zero];rfl
  ·rw [limbs_pos h,val,ih _ (by omega)]
   omega
theorem val_append (l m:List Nat):val (l++m)=val l+4294967296^l.length*val m:=by
 induction l with
 | nil=>simp [val]
 | cons x l ih =>
  simp only [List.cons_append,val,ih,List.length_cons,Nat.pow_succ,Nat.mul_add]
  rw [Nat.mul_comm (4294967296^l.length) 4294967296,Nat.mul_assoc,Nat.add_assoc]
theorem val_lt {l:List Nat} (h:Limbs l):val l<4294967296^l.length:=by
 induction l with
 | nil=>simp [val]
 | cons x l ih =>
  have h1:=h x List.mem_cons_self
  have h2:=ih fun y hy=>h y (List.mem_cons_of_mem _ hy)
  simp only [val,List.length_cons,Nat.pow_succ]
  omega
theorem val_zeros (n:Nat):val (List.replicate n 0)=0:=by
 induction n with
 | zero=>rfl
 | succ n ih=>simp [List.replicate_succ,val,ih]
theorem Limbs.tail {x:Nat} {l:List Nat} (h:Limbs (x::l)):Limbs l:=fun y hy=>h y (List.mem_cons_of_mem _ hy)
theorem Limbs.take {l:List Nat} (h:Limbs l) (n:Nat):Limbs (l.take n):=fun y hy=>h y (List.mem_of_mem_take hy)
theorem Limbs.drop {l:List Nat} (h:Limbs l) (n:Nat):Limbs (l.drop n):=fun y hy=>h y (List.mem_of_mem_drop hy)
theorem Limbs.append {l m:List Nat} (h:Limbs l) (h':Limbs m):Limbs (l++m):=fun y hy=>by
 rcases List.mem_append.1 hy with hy | hy
 ·exact h y hy
 ·exact h' y hy
theorem Limbs.set {l:List Nat} (h:Limbs l) (i:Nat) {x:Nat} (hx:x<4294967296):Limbs (l.set i x):=fun y hy=>by
 rcases List.mem_or_eq_of_mem_set hy with hy | rfl
 ·exact h y hy
 ·exact hx
theorem Limbs.rep (n:Nat):Limbs (List.replicate n 0):=fun y hy=>by
 rw [(List.mem_replicate.1 hy).2];omega
theorem Limbs.getD {l:List Nat} (h:Limbs l) (i:Nat):l.getD i 0<4294967296:=by
 rw [List.getD_eq_getElem?_getD]
 cases hi:l[i]? with
 | none=>simp
 | some x=>simpa using h x (List.mem_of_getElem? hi)
def cutLen (l:List Nat):Nat→Nat
 | 0=>0
 | n+1=>if l.getD n 0=0 then cutLen l n else n+1
def trim (l:List Nat):List Nat:=l.take (cutLen l l.length)
theorem cutLen_le (l:List Nat):∀ n,cutLen l n≤n
 | 0=>Nat.le_refl _
 | n+1=>by
  unfold cutLen
  split
  ·exact Nat.le_succ_of_le (cutLen_le l n)
  ·exact Nat.le_refl _
theorem limbs_val {l:List Nat} (h:Limbs l) (hn:∀ x,l.getLast?=some x→x≠0):limbs (val l)=l:=by
 induction l with
 | nil=>exact limbs_zero
 | cons x l ih =>
  have hx:=h x List.mem_cons_self
  have hl:limbs (val l)=l:=ih h.tail fun y hy=>by
   cases l with
   | nil=>cases hy
   | cons z l=>exact hn y (by rw [List.getLast?_cons_cons];exact hy)
  have hne:x+4294967296*val l≠0:=by
   intro h0
   cases l with
   | nil=>exact hn x rfl (by omega)
   | cons z l =>
    have:val (z::l)=0:=by omega
    rw [this,limbs_zero] at hl
    cases hl
  rw [val,limbs_pos hne]
  congr 1
  ·omega
  ·rw [show (x+4294967296*val l) / 4294967296=val l by omega]
   exact hl
theorem take_cutLen (l:List Nat):∀ n,n≤l.length→(l.take n)=l.take (cutLen l n)++List.replicate (n-cutLen l n) 0∧∀ x,(l.take (cutLen l n)).getLast?=some x→x≠0
 | 0,_=>by simp [cutLen]
 | n+1,hn=>by
  unfold cutLen
  have hlt:n<l.length:=by omega
  have hg:l.getD n 0=l[n]:=by simp [List.getD_eq_getElem?_getD,hlt]
  split
  ·rename_i h0
   obtain ⟨h1,h2⟩:=take_cutLen l n (by omega)
   refine ⟨?_,h2⟩
   have:=cutLen_le l n
   rw [show n+1-cutLen l n=(n-cutLen l n)+1 by omega,List.replicate_succ',← List.append_assoc,← h1,List.take_succ_eq_append_getElem hlt,← hg,h0]
  ·rename_i h0
   refine ⟨by simp,fun x hx=>?_⟩
   rw [List.take_succ_eq_append_getElem hlt] at hx
   rw [List.getLast?_append] at hx
   simp only [List.getLast?_singleton,Option.some_or,Option.some.injEq] at hx
   rw [← hx,← hg]
   exact h0
theorem trim_eq {l:List Nat} (h:Limbs l):trim l=limbs (val l):=by
 obtain ⟨h1,h2⟩:=take_cutLen l l.length (Nat.le_refl _)
 rw [List.take_length] at h1
 have h3:val l=val (trim l):=by
  conv=>lhs;rw [h1]
  rw [val_append,val_zeros]
  simp [trim]
 rw [h3]
 exact (limbs_val (h.take _) h2).symm
theorem limbs_eq_nil {n:Nat}:limbs n=[]↔n=0:=by
 constructor
 ·intro h
  by_cases h0:n=0
  ·exact h0
  ·rw [limbs_pos h0] at h;cases h
 ·rintro rfl;exact limbs_zero
theorem limbs_length_le {n k:Nat} (h:n<4294967296^k):(limbs n).length≤k:=by
 induction k generalizing n with
 | zero=>rw [show n=0 by simpa using h,limbs_zero];simp
 | succ k ih =>
  by_cases h0:n=0
  ·subst h0;rw [limbs_zero];simp
  ·rw [limbs_pos h0,List.length_cons]
   have:=ih (n:=n / 4294967296) (by rw [Nat.pow_succ] at h;omega)
   omega
theorem trim_length (l:List Nat):(trim l).length≤l.length:=by
 unfold trim
 rw [List.length_take]
 exact Nat.min_le_right _ _
theorem limbs_val_length {l:List Nat} (h:Limbs l):(limbs (val l)).length≤l.length:=limbs_length_le (val_lt h)
theorem bit_and (a b:Nat):(a &&& b) / 2^31=(a / 2^31) &&& (b / 2^31):=by
 rw [← Nat.shiftRight_eq_div_pow,← Nat.shiftRight_eq_div_pow,← Nat.shiftRight_eq_div_pow,Nat.shiftRight_and_distrib]
theorem bit_or (a b:Nat):(a ||| b) / 2^31=(a / 2^31) ||| (b / 2^31):=by
 rw [← Nat.shiftRight_eq_div_pow,← Nat.shiftRight_eq_div_pow,← Nat.shiftRight_eq_div_pow,Nat.shiftRight_or_distrib]
theorem bit_xor (a b:Nat):(a ^^^ b) / 2^31=(a / 2^31) ^^^ (b / 2^31):=by
 rw [← Nat.shiftRight_eq_div_pow,← Nat.shiftRight_eq_div_pow,← Nat.shiftRight_eq_div_pow,Nat.shiftRight_xor_distrib]
theorem borrow {x y c d:Nat} (hx:x<4294967296) (hy:y<4294967296) (hc:c<2) (hd:d=(x+2*4294967296-y-c)%4294967296) :
  (((4294967295-x) &&& y) ||| ((4294967295-(x ^^^ y)) &&& d)) / 2^31=if x<y+c then 1 else 0:=by
 have hxy:(x ^^^ y)<4294967296:=Nat.xor_lt_two_pow (n:=32) hx hy
 have h1:=bit_xor x y
 rw [bit_or,bit_and,bit_and]
 have e1:(4294967295-x) / 2^31=1-x / 2^31:=by omega
 have e2:(4294967295-(x ^^^ y)) / 2^31=1-(x ^^^ y) / 2^31:=by omega
 rw [e1,e2,h1]
 have hX:x / 2^31=0∨x / 2^31=1:=by omega
 have hY:y / 2^31=0∨y / 2^31=1:=by omega
 have hD:d / 2^31=0∨d / 2^31=1:=by omega
 rcases hX with hX | hX <;> rcases hY with hY | hY <;> rcases hD with hD | hD <;> rw [hX,hY,hD] <;> simp <;> omega
theorem val_take_succ (l:List Nat) (i:Nat):val (l.take (i+1))=val (l.take i)+4294967296^i*l.getD i 0:=by
 by_cases h:i<l.length
 ·rw [List.take_succ_eq_append_getElem h,val_append,List.length_take,Nat.min_eq_left (by omega)]
  simp [val,List.getD_eq_getElem?_getD,h]
 ·rw [List.take_of_length_le (by omega),List.take_of_length_le (by omega)]
  simp [List.getD_eq_getElem?_getD,show l.length≤i by omega]
theorem take_set_succ {l:List Nat} {i:Nat} (h:i<l.length) (d:Nat):(l.set i d).take (i+1)=l.take i++[d]:=by
 rw [List.take_succ_eq_append_getElem (by simpa using h),List.take_set_of_le (Nat.le_refl _),List.getElem_set_self]
theorem val_take_set {l:List Nat} {i:Nat} (h:i<l.length) (d:Nat):val ((l.set i d).take (i+1))=val (l.take i)+4294967296^i*d:=by
 rw [take_set_succ h,val_append,List.length_take,Nat.min_eq_left (by omega)]
 simp [val]
theorem add_round {A X Y P x y c s k:Nat} (h:A+P*c=X+Y) (hs:s+4294967296*k=x+y+c):(A+P*s)+P*4294967296*k=(X+P*x)+(Y+P*y):=by
 have h2:P*(s+4294967296*k)=P*(x+y+c):=by rw [hs]
 simp only [Nat.mul_add] at h2
 rw [Nat.mul_assoc]
 omega
def sgn (a b:Nat):Int:=if a<b then -1 else if b<a then 1 else 0
theorem limbs_mono {a b:Nat} (h:a≤b):(limbs a).length≤(limbs b).length:=by
 have:=val_lt (limbs_limbs b)
 rw [val_limbs] at this
 exact limbs_length_le (Nat.lt_of_le_of_lt h this)
theorem val_split {l:List Nat} {i:Nat} (h:i<l.length):val l=val (l.take i)+4294967296^i*(l.getD i 0+4294967296*val (l.drop (i+1))):=by
 conv=>lhs;rw [← List.take_append_drop i l]
 rw [val_append,List.length_take,Nat.min_eq_left (by omega),List.drop_eq_getElem_cons h,val]
 simp [List.getD_eq_getElem?_getD,h]
theorem val_lt_of_top {l m:List Nat} {i:Nat} (hl:Limbs l) (h1:i<l.length) (h2:i<m.length) (hd:l.drop (i+1)=m.drop (i+1)) (hlt:l.getD i 0<m.getD i 0):val l<val m:=by
 rw [val_split h1,val_split h2,hd]
 have h3:val (l.take i)<4294967296^i:=by
  have:=val_lt (hl.take i)
  rwa [List.length_take,Nat.min_eq_left (by omega)] at this
 have h4:4294967296^i*(l.getD i 0+4294967296*val (m.drop (i+1))+1)≤4294967296^i*(m.getD i 0+4294967296*val (m.drop (i+1))):=Nat.mul_le_mul_left _ (by omega)
 rw [Nat.mul_add,Nat.mul_one] at h4
 omega
theorem sub_round {A Y X P b s y x k:Nat} (h:A+Y=X+P*b) (hs:s+y+b=x+4294967296*k):(A+P*s)+(Y+P*y)=(X+P*x)+P*4294967296*k:=by
 have h2:P*(s+y+b)=P*(x+4294967296*k):=by rw [hs]
 simp only [Nat.mul_add] at h2
 rw [Nat.mul_assoc]
 omega
theorem val_set {l:List Nat} {p:Nat} (h:p<l.length) (s:Nat):val (l.set p s)+4294967296^p*l.getD p 0=val l+4294967296^p*s:=by
 have h1:=val_split h
 have h2:=val_split (l:=l.set p s) (i:=p) (by simpa using h)
 rw [List.take_set_of_le (Nat.le_refl _),List.drop_set_of_lt (by omega)] at h2
 have h3:(l.set p s).getD p 0=s:=by simp [List.getD_eq_getElem?_getD,h]
 rw [h3] at h2
 rw [h1,h2,Nat.mul_add,Nat.mul_add]
 omega
theorem mul_round {v v' v0 P Q a V m s k old:Nat} (h:v+P*k=v0+Q*a*V) (hset:v'+P*old=v+P*s) {k':Nat} (hs:s+4294967296*k'=a*m+old+k) {M:Nat} (hP:P=Q*M):v'+P*4294967296*k'=v0+Q*a*(V+M*m):=by
 have h2:P*(s+4294967296*k')=P*(a*m+old+k):=by rw [hs]
 simp only [Nat.mul_add] at h2 ⊢
 have h3:Q*a*(M*m)=P*(a*m):=by rw [hP];simp only [Nat.mul_assoc,Nat.mul_left_comm,Nat.mul_comm]
 rw [h3,Nat.mul_assoc P]
 omega
def padL (n v:Nat):List Nat:=limbs v++List.replicate (n-(limbs v).length) 0
theorem padL_eq {c:List Nat} (h:Limbs c):padL c.length (val c)=c:=by
 obtain ⟨h1,h2⟩:=take_cutLen c c.length (Nat.le_refl _)
 rw [List.take_length] at h1
 have h3:=trim_eq h
 unfold trim at h3
 have h4:=cutLen_le c c.length
 unfold padL
 rw [← h3,List.length_take,Nat.min_eq_left h4]
 exact h1.symm
theorem padL_of {c:List Nat} {n v:Nat} (h:Limbs c) (h1:c.length=n) (h2:val c=v):c=padL n v:=by
 rw [← h1,← h2,padL_eq h]
theorem drop_set_self {l:List Nat} {i:Nat} (h:i<l.length) (d:Nat):(l.set i d).drop i=d::l.drop (i+1):=by
 rw [List.drop_eq_getElem_cons (by simpa using h),List.getElem_set_self,List.drop_set_of_lt (by omega)]
theorem drop_getD {l:List Nat} {i:Nat} (h:i<l.length):l.drop i=l.getD i 0::l.drop (i+1):=by
 rw [List.drop_eq_getElem_cons h]
 simp [List.getD_eq_getElem?_getD,h]
def put (w:List Nat) (off:Nat) (c:List Nat):List Nat:=w.take off++c++w.drop (off+c.length)
theorem put_length {w c:List Nat} {off:Nat} (h:off+c.length≤w.length):(put w off c).length=w.length:=by
 simp only [put,List.length_append,List.length_take,List.length_drop];omega
theorem put_getD {w c:List Nat} {off i:Nat} (h:off+c.length≤w.length) (hi:i<c.length):(put w off c).getD (off+i) 0=c.getD i 0:=by
 simp only [put,List.getD_eq_getElem?_getD,List.append_assoc]
 rw [List.getElem?_append_right (by simp;omega),List.getElem?_append_left (by simp;omega)]
 congr 2
 simp
 omega
theorem put_set {w c:List Nat} {off i:Nat} (h:off+c.length≤w.length) (hi:i<c.length) (d:Nat):(put w off c).set (off+i) d=put w off (c.set i d):=by
 have h1:(w.take off).length=off:=by rw [List.length_take];omega
 simp only [put,List.append_assoc,List.length_set]
 rw [List.set_append_right _ _ (by omega),h1,Nat.add_sub_cancel_left,List.set_append_left _ _ hi]
theorem put_self {w:List Nat} {off n:Nat} (h:off+n≤w.length):put w off ((w.drop off).take n)=w:=by
 have h1:((w.drop off).take n).length=n:=by simp;omega
 simp only [put,h1]
 rw [← List.drop_drop,List.append_assoc,List.take_append_drop,List.take_append_drop]
theorem put_limbs {w c:List Nat} {off:Nat} (h:Limbs w) (hc:Limbs c):Limbs (put w off c):=((h.take _).append hc).append (h.drop _)
structure DigitH (q a x T z:Nat):Prop where
 a0:2147483648≤a
 a1:a<4294967296
 x1:x<4294967296
 z1:z<4294967296
 t1:T<18446744073709551616
 q1:q<4294967296
 g0:T / a≤4294967297
 qv:q*(a*4294967296+x)≤T*4294967296+z
theorem digit_start {q a x T z:Nat} (h:DigitH q a x T z):q≤T / a:=by
 have h1:=h.qv;have h2:=h.a0;have h3:=h.z1
 rw [Nat.le_div_iff_mul_le (by omega)]
 rw [Nat.mul_add,← Nat.mul_assoc] at h1
 omega
theorem digit_step {q a x T z g r:Nat} (h:DigitH q a x T z) (hg:g*a+r=T) (hq:q≤g) (hc:4294967296≤g∨r*4294967296+z<g*x):q≤g-1∧0<g∧(g-1)*a+(r+a)=T:=by
 have h1:=h.qv;have h2:=h.q1
 have hlt:q<g:=by
  rcases hc with hc | hc
  ·omega
  ·refine Nat.lt_of_le_of_ne hq fun he=>?_
   subst he
   rw [Nat.mul_add,← Nat.mul_assoc] at h1
   rw [← hg] at h1
   omega
 refine ⟨by omega,by omega,?_⟩
 obtain ⟨m,rfl⟩:∃ m,g=m+1:=⟨g-1,by omega⟩
 rw [Nat.add_mul] at hg
 simp only [Nat.add_sub_cancel]
 omega
theorem digit_done {q a x T z g r:Nat} (h:DigitH q a x T z) (hg:g*a+r=T) (hc:g*x≤r*4294967296+z):g*(a*4294967296+x)≤T*4294967296+z:=by
 rw [Nat.mul_add,← Nat.mul_assoc,← hg]
 omega
theorem digit_break {q a x T z g r:Nat} (h:DigitH q a x T z) (hg:g*a+r=T) (hT:T≤a*4294967296+4294967295) (hr:4294967296≤r):g<4294967296∧g*x≤r*4294967296+z:=by
 have h0:=h.a0;have h1:=h.x1
 have hlt:g<4294967296:=by
  refine Nat.lt_of_not_le fun hle=>?_
  have:4294967296*a≤g*a:=Nat.mul_le_mul_right _ hle
  omega
 refine ⟨hlt,?_⟩
 have:g*x≤4294967296*4294967296:=Nat.mul_le_mul (by omega) (by omega)
 omega
theorem val_top {l:List Nat} {n:Nat} (h:l.length=n+1):val l=val (l.take n)+4294967296^n*l.getD n 0:=by
 rw [← val_take_succ,List.take_of_length_le (by omega)]
theorem digit_core {B P a x y z y2 lv lu U V q:Nat} (hB:4≤B) (hP:0<P) (ha:B≤2*a) (a1:a<B) (x1:x<B) (z1:z<B) (y1:y<B) (hV:V=lv+P*(a*B+x)) (hU:U=lu+P*((y2*B+y)*B+z)) (l1:lv<P) (l2:lu<P) (hlt:U<B*V) (hq:U / V=q) :
  q<B∧(y2*B+y)≤a*B+(B-1)∧(y2*B+y) / a≤B+1∧q*(a*B+x)≤(y2*B+y)*B+z∧∀ g,g<B→g*(a*B+x)≤(y2*B+y)*B+z→q≤g→g=q∨g=q+1:=by
 have hab:B≤a*B:=Nat.le_mul_of_pos_left _ (by omega)
 have hvpos:0<V:=by
  have:0<P*(a*B+x):=Nat.mul_pos hP (by omega)
  omega
 have hqu:q*V≤U:=by rw [← hq];exact Nat.div_mul_le_self _ _
 have hqu2:U<(q+1)*V:=by
  have:=Nat.lt_div_mul_add hvpos (a:=U)
  rw [hq] at this
  rw [Nat.add_mul];omega
 have hq1:q<B:=by
  rw [← hq];exact Nat.div_lt_of_lt_mul (by rw [Nat.mul_comm];exact hlt)
 clear hq
 have hVlt:V<P*(a*B+x+1):=by rw [Nat.mul_add P _ 1,Nat.mul_one];omega
 have hUlt:U<P*((y2*B+y)*B+z+1):=by rw [Nat.mul_add P _ 1,Nat.mul_one];omega
 have hT:(y2*B+y)≤a*B+(B-1):=by
  refine Nat.le_of_not_lt fun hh=>?_
  have h3:a+1≤y2:=by
   refine Nat.lt_of_not_le fun h4=>?_
   have:y2*B≤a*B:=Nat.mul_le_mul_right _ h4
   omega
  have h4:(a+1)*B≤y2*B:=Nat.mul_le_mul_right _ h3
  have h5:a*B+x+1≤(a+1)*B:=by rw [Nat.add_mul];omega
  have h6:P*(a*B+x+1)≤P*((a+1)*B):=Nat.mul_le_mul_left _ h5
  have h7:(a+1)*B*B≤(y2*B+y)*B:=Nat.mul_le_mul_right _ (by omega)
  have h8:P*((a+1)*B*B)≤P*((y2*B+y)*B+z):=Nat.mul_le_mul_left _ (by omega)
  have h9:B*V≤B*(P*((a+1)*B)):=Nat.mul_le_mul_left _ (by omega)
  have h10:B*(P*((a+1)*B))=P*((a+1)*B*B):=by rw [Nat.mul_comm B,Nat.mul_assoc P]
  omega
 generalize y2*B+y=T at *
 refine ⟨hq1,hT,?_,?_,?_⟩
 ·have:T / a≤(a*B+(B-1)) / a:=Nat.div_le_div_right hT
  rw [Nat.mul_add_div (by omega)] at this
  have h6:(B-1) / a<2:=by
   rw [Nat.div_lt_iff_lt_mul (by omega)];omega
  omega
 ·have h6:q*(P*(a*B+x))≤q*V:=Nat.mul_le_mul_left _ (by omega)
  have h7:P*(q*(a*B+x))<P*(T*B+z+1):=by
   have:P*(q*(a*B+x))=q*(P*(a*B+x)):=by rw [← Nat.mul_assoc,Nat.mul_comm P q,Nat.mul_assoc]
   omega
  have:=Nat.lt_of_mul_lt_mul_left h7
  omega
 ·intro g hg hgv hqg
  have h6:¬ q+2≤g:=by
   intro hge
   obtain ⟨k,rfl⟩:∃ k,g=k+1:=⟨g-1,by omega⟩
   have h7:(q+1)*V≤k*V:=Nat.mul_le_mul_right _ (by omega)
   have h8:k*V≤k*(P*(a*B+x+1)):=Nat.mul_le_mul_left _ (by omega)
   have h9:k*(P*(a*B+x+1))=P*(k*(a*B+x)+k):=by
    rw [← Nat.mul_assoc,Nat.mul_comm k P,Nat.mul_assoc,Nat.mul_add k,Nat.mul_one]
   have h10:P*(k*(a*B+x)+k)≤P*(T*B+z):=by
    refine Nat.mul_le_mul_left _ ?_
    rw [Nat.add_mul,Nat.one_mul] at hgv
    omega
   omega
  omega
theorem top3 (lu P B y2 y z:Nat):lu+P*z+P*B*y+P*B*B*y2=lu+P*((y2*B+y)*B+z):=by
 have h1:P*((y2*B+y)*B)=P*B*y+P*B*B*y2:=by
  rw [Nat.add_mul,Nat.mul_add,Nat.add_comm]
  congr 1
  ·rw [Nat.mul_comm y,Nat.mul_assoc]
  ·rw [Nat.mul_assoc y2,Nat.mul_comm y2,← Nat.mul_assoc,← Nat.mul_assoc]
 rw [Nat.mul_add,h1]
 omega
theorem digit_facts {u v:List Nat} {m:Nat} (hu:Limbs u) (hv:Limbs v) (hvl:v.length=m+2) (hul:u.length=m+3) (ha:2147483648≤v.getD (m+1) 0) (hlt:val u<4294967296*val v) :
  DigitH (val u / val v) (v.getD (m+1) 0) (v.getD m 0) (u.getD (m+2) 0*4294967296+u.getD (m+1) 0) (u.getD m 0) ∧
  u.getD (m+2) 0*4294967296+u.getD (m+1) 0≤v.getD (m+1) 0*4294967296+4294967295 ∧
  ∀ g,g<4294967296→g*(v.getD (m+1) 0*4294967296+v.getD m 0)≤(u.getD (m+2) 0*4294967296+u.getD (m+1) 0)*4294967296+u.getD m 0→val u / val v≤g→g=val u / val v∨g=val u / val v+1:=by
 have e1:=val_top (l:=v) (n:=m+1) hvl
 have e2:=val_take_succ v m
 have e3:=val_top (l:=u) (n:=m+2) hul
 have e4:=val_take_succ u (m+1)
 have e5:=val_take_succ u m
 have l1:val (v.take m)<4294967296^m:=by
  have:=val_lt (hv.take m);rwa [List.length_take,Nat.min_eq_left (by omega)] at this
 have l2:val (u.take m)<4294967296^m:=by
  have:=val_lt (hu.take m);rwa [List.length_take,Nat.min_eq_left (by omega)] at this
 have a1:=hv.getD (m+1);have x1:=hv.getD m;have z1:=hu.getD m;have y1:=hu.getD (m+1);have y2:=hu.getD (m+2)
 rw [e2] at e1
 rw [e4,e5] at e3
 have hP:0<4294967296^m:=Nat.pow_pos (by omega)
 have hv1:val v=val (v.take m)+4294967296^m*(v.getD (m+1) 0*4294967296+v.getD m 0):=by
  rw [e1,Nat.pow_succ,Nat.mul_add,Nat.mul_comm (v.getD (m+1) 0),Nat.mul_assoc];omega
 have hu1:val u=val (u.take m)+4294967296^m*((u.getD (m+2) 0*4294967296+u.getD (m+1) 0)*4294967296+u.getD m 0):=by
  rw [e3,Nat.pow_succ,Nat.pow_succ]
  exact top3 _ _ _ _ _ _
 obtain ⟨h1,h2,h3,h4,h5⟩:=digit_core (B:=4294967296) (by omega) hP (by omega) a1 x1 z1 y1 hv1 hu1 l1 l2 hlt rfl
 exact ⟨⟨ha,a1,x1,z1,by omega,h1,h3,h4⟩,h2,h5⟩
theorem digit_facts' {u v:List Nat} (hu:Limbs u) (hv:Limbs v) (hvl:2≤v.length) (hul:u.length=v.length+1) (ha:2147483648≤v.getD (v.length-1) 0) (hlt:val u<4294967296*val v) :
  DigitH (val u / val v) (v.getD (v.length-1) 0) (v.getD (v.length-2) 0) (u.getD v.length 0*4294967296+u.getD (v.length-1) 0) (u.getD (v.length-2) 0) ∧
  u.getD v.length 0*4294967296+u.getD (v.length-1) 0≤v.getD (v.length-1) 0*4294967296+4294967295 ∧
  ∀ g,g<4294967296→g*(v.getD (v.length-1) 0*4294967296+v.getD (v.length-2) 0)≤(u.getD v.length 0*4294967296+u.getD (v.length-1) 0)*4294967296+u.getD (v.length-2) 0→val u / val v≤g→g=val u / val v∨g=val u / val v+1:=by
 obtain ⟨m,hm⟩:∃ m,v.length=m+2:=⟨v.length-2,by omega⟩
 have e1:v.length-1=m+1:=by omega
 have e2:v.length-2=m:=by omega
 rw [e1] at ha ⊢
 rw [e2,hm]
 exact digit_facts hu hv hm (by omega) ha hlt
theorem or_add32 {a b:Nat} (h:b<4294967296):a*2^32 ||| b=a*4294967296+b:=by
 have:=Nat.two_pow_add_eq_or_of_lt (i:=32) h a
 rw [Nat.mul_comm,← this]
theorem digit_facts2 {u v:List Nat} (hu:Limbs u) (hv:Limbs v) (hvl:2≤v.length) (hul:u.length=v.length+1) (ha:2147483648≤v.getD (v.length-1) 0) (hlt:val u<4294967296*val v) :
  ∃ T q,q=val u / val v∧(u.getD v.length 0*2^32 ||| u.getD (v.length-1) 0)=T∧T<18446744073709551616∧DigitH q (v.getD (v.length-1) 0) (v.getD (v.length-2) 0) T (u.getD (v.length-2) 0) ∧
   (∀ g r,g*v.getD (v.length-1) 0+r=T→4294967296≤r→g<4294967296∧g*v.getD (v.length-2) 0≤r*4294967296+u.getD (v.length-2) 0) ∧
   ∀ g r,g<4294967296→g*v.getD (v.length-1) 0+r=T→g*v.getD (v.length-2) 0≤r*4294967296+u.getD (v.length-2) 0→q≤g→g=q∨g=q+1:=by
 obtain ⟨h1,h2,h3⟩:=digit_facts' hu hv hvl hul ha hlt
 have hor:(u.getD v.length 0*2^32 ||| u.getD (v.length-1) 0)=u.getD v.length 0*4294967296+u.getD (v.length-1) 0:=or_add32 (hu.getD _)
 refine ⟨_,_,rfl,hor,h1.t1,h1,fun g r hg hr=>digit_break h1 hg h2 hr,fun g r hgl hg hc hq=>h3 g hgl (digit_done h1 hg hc) hq⟩
theorem getD_of_drop {c u:List Nat} {i:Nat} (h:c.drop i=u.drop i):c.getD i 0=u.getD i 0:=by
 have:=congrArg (fun l=>l.getD 0 0) h
 simpa [List.getD_eq_getElem?_getD] using this
theorem drop_set_next {c u:List Nat} {i:Nat} (h:c.drop i=u.drop i) (s:Nat):(c.set i s).drop (i+1)=u.drop (i+1):=by
 rw [List.drop_set_of_lt (by omega),← List.drop_drop,← List.drop_drop,h]
theorem sub32_rel {x y b:Nat} (hx:x<4294967296) (hy:y<4294967296) (hb:b<2):(x+2*4294967296-y-b)%4294967296+y+b=x+4294967296*(if x<y+b then 1 else 0):=by
 split <;> omega
theorem sub32_lt {x y b:Nat}:(if x<y+b then 1 else 0)<2:=by split <;> omega
theorem digit_back {F P k R:Nat} (h:F+P*k=R+P) (h1:F<P) (h2:R<P):F=R:=by
 rcases k with _ | _ | k
 ·omega
 ·omega
 ·have:P*2≤P*(k+1+1):=Nat.mul_le_mul_left _ (by omega)
  omega
theorem wrap_u32_add (n m:Nat):IntKind.wrap .u32 ((n:Int)+(m:Int))=(((n+m)%4294967296:Nat):Int):=by
 rw [← Int.natCast_add,wrap_u32_nat]
theorem wrap_u64_pred {n:Nat} (h:1≤n) (h':n<18446744073709551616):IntKind.wrap .u64 ((n:Int)-1)=((n-1:Nat):Int):=by
 rw [wrap_u64 (by omega) (by omega)];omega
theorem wrap_i64_m2 {n:Nat} (h:2≤n) (h':n<9223372036854775808):IntKind.wrap .i64 ((n:Int)-2)=((n-2:Nat):Int):=by
 rw [wrap_i64 (by omega) (by omega)];omega
theorem put_len {w c:List Nat} {off:Nat} (h:off+c.length≤w.length):(put w off c).length=w.length:=put_length h
theorem digit_left {U V g q C P b:Nat} (hP:C<P) (hb:b<2) (h:C+g*V=U+P*b) (hq:q=U / V) (hV:0<V) (hVP:V≤P) (hg:g=q∨g=q+1) :
  (b=0→g=U / V∧C=U%V)∧(b=1→g=U / V+1∧C+V=U%V+P):=by
 have h1:=Nat.div_add_mod U V
 have h2:=Nat.mod_lt U hV
 rw [← hq] at h1 ⊢
 rw [Nat.mul_comm] at h1
 rcases hg with rfl | rfl
 ·refine ⟨fun hb=>⟨rfl,by subst hb;omega⟩,fun hb=>?_⟩
  subst hb;exfalso;omega
 ·rw [Nat.add_mul,Nat.one_mul] at h
  refine ⟨fun hb=>?_,fun hb=>⟨rfl,by subst hb;omega⟩⟩
  subst hb;exfalso;omega
theorem msub_round {A U V P g v u c b s b' c' t:Nat} (h:A+g*V=U+P*(c+b)) (ht:t+4294967296*c'=g*v+c) (hs:s+t+b=u+4294967296*b'):(A+P*s)+g*(V+P*v)=(U+P*u)+P*4294967296*(c'+b'):=by
 have h2:P*(s+t+b)=P*(u+4294967296*b'):=by rw [hs]
 have h3:P*(t+4294967296*c')=P*(g*v+c):=by rw [ht]
 simp only [Nat.mul_add] at h h2 h3 ⊢
 have h4:g*(P*v)=P*(g*v):=by rw [← Nat.mul_assoc,Nat.mul_comm g,Nat.mul_assoc]
 rw [h4,Nat.mul_assoc P,Nat.mul_assoc P]
 omega
end Go.Proofs.YtjmpajgjaefcjaaGreat.Vm
