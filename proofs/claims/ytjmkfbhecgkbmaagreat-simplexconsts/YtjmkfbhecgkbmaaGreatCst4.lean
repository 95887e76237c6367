/-
  Part 4 of 9 of a proof.
-/
import Derived.Test.YtjmkfbhecgkbmaaGreatCst3
import Derived.Orders
import Derived.Below
import Derived.Laws.AppendOwn
import Derived.Laws.MakeOwn
import Derived.Laws.CopyRow
import Derived.Laws.Rows
import Derived.Laws.Cells
import Derived.Tactics
import Derived.Laws.BitsLemmas
import Derived.Maps.Range
import Derived.Carry
import Derived.Test.YtjmkfbhecgkbmaaGreatProg
set_option linter.unusedVariables false
set_option linter.unusedSimpArgs false
set_option maxRecDepth 100000

namespace Go.Proofs.YtjmkfbhecgkbmaaGreat.Vm
open Go
section
variable {P:Program} {pins:List Nat} {d:Option Tmp} {ty t u:TypeId} {p:String} {a:Array Edge} {g:Option (Nat × Bool)} {s:St} {K:St→Prop}
theorem opW_lookup {m x:Operand} {c:Bool}:(opW P pins ⟨d,.lookup t m x c,ty,p,a,g⟩ s K=(lookW P (tyOf P t) (ev s.env m) (ev s.env x) c s.hp (retK K s d))):=propext Iff.rfl
theorem opF_lookup {nw:Nat→Bool} {C:Eff→Prop} {m x:Operand} {c:Bool}:(opF P nw ⟨d,.lookup t m x c,ty,p,a,g⟩ s C=(lookW P (tyOf P t) (ev s.env m) (ev s.env x) c s.hp (valK C d (objOf (ev s.env m))))):=propext Iff.rfl
theorem opW_mapUpdate {m x y:Operand}:(opW P pins ⟨d,.mapUpdate t m x y,ty,p,a,g⟩ s K=(d=none∧putW P (tyOf P t) (ev s.env m) (ev s.env x) (ev s.env y) s K)):=propext Iff.rfl
theorem opW_insert {m x y:Operand}:(opW P pins ⟨d,.insert t m x y,ty,p,a,g⟩ s K=(d=none∧putW P (tyOf P t) (ev s.env m) (ev s.env x) (ev s.env y) s K)):=propext Iff.rfl
theorem opW_makeMap {r:Option Operand}:(opW P pins ⟨d,.makeMap t r,ty,p,a,g⟩ s K=(makeMapW (tyOf P t) d (evo s.env r) s (retK2 K d))):=propext Iff.rfl
theorem opW_range {m:Operand}:(opW P pins ⟨d,.range t m,ty,p,a,g⟩ s K=(rangeW (tyOf P t) d (ev s.env m) s (retK2 K d))):=propext Iff.rfl
theorem opW_next {it:Operand}:(opW P pins ⟨d,.next it false,ty,p,a,g⟩ s K=(nextW (ev s.env it) s (retK2 K d))):=propext Iff.rfl
theorem opW_entry {it:Operand}:(opW P pins ⟨d,.entry it,ty,p,a,g⟩ s K=(entryW (ev s.env it) s (retK K s d))):=propext Iff.rfl
theorem opW_delete {m x:Operand}:(opW P pins ⟨d,.call ⟨.builtin .delete,⟨[m,x]⟩,⟨[t,u]⟩⟩,ty,p,a,g⟩ s K=(delW P (tyOf P t) (ev s.env m) (ev s.env x) s (fun s'=>K (s'.ret d .any)))):=propext Iff.rfl
end
section
variable {P:Program} {hp:List Ob} {s:St} {n0 b:Nat} {hz:Bool} {z:List AV} {kt et:TypeId}
def rowsMO:Ob→Option (List (List AV))
 | .map _ _ rows=>some rows
 | _=>none
theorem rowsM_mp {i:Nat}:rowsM (.mp i) hp=rowsMO (hp.getD i .dead):=by unfold rowsM rowsMO;rfl
theorem rowsM_md {c:Nat} {bs:List Nat} {rows:List (List AV)}:rowsM (.md c bs rows) hp=some rows:=rfl
theorem rowsM_nilmp:rowsM .nilmp hp=some []:=rfl
theorem rowsMO_map {c:Nat} {bs:List Nat} {rows:List (List AV)}:rowsMO (.map c bs rows)=some rows:=rfl
def lookR (P:Program) (et:TypeId) (c:Bool) (rows:List (List AV)) (K:AV→Prop):Option (Option Nat)→Prop
 | some (some j)=>K (if c then .tup [(rows.getD j []).getD 1 .any,.bool true] else (rows.getD j []).getD 1 .any)
 | some none=>K (if c then .tup [(tyOf P et).zero.headD .any,.bool false] else (tyOf P et).zero.headD .any)
 | none=>False
def lookO (P:Program) (kt et:TypeId) (x:AV) (c:Bool) (K:AV→Prop):Option (List (List AV))→Prop
 | some rows=>zok P et=true∧isKeyA (tyOf P kt).d x=true∧lookR P et c rows K (findA (tyOf P kt).d x rows 0)
 | none=>False
theorem lookW_map {m x:AV} {c:Bool} {K:AV→Prop}:lookW P ⟨.map kt et,n0,b,hz,z⟩ m x c hp K=lookO P kt et x c K (rowsM m hp):=by
 unfold lookW lookO
 dsimp only
 cases rowsM m hp with
 | none=>rfl
 | some rows=>rfl
theorem lookO_some {x:AV} {c:Bool} {K:AV→Prop} {rows:List (List AV)}:lookO P kt et x c K (some rows)=(zok P et=true∧isKeyA (tyOf P kt).d x=true∧lookR P et c rows K (findA (tyOf P kt).d x rows 0)):=rfl
theorem lookR_yes {c:Bool} {K:AV→Prop} {rows:List (List AV)} {j:Nat}:lookR P et c rows K (some (some j))=K (if c then .tup [(rows.getD j []).getD 1 .any,.bool true] else (rows.getD j []).getD 1 .any):=rfl
theorem lookR_no {c:Bool} {K:AV→Prop} {rows:List (List AV)}:lookR P et c rows K (some none)=K (if c then .tup [(tyOf P et).zero.headD .any,.bool false] else (tyOf P et).zero.headD .any):=rfl
def putR (i clock:Nat) (births:List Nat) (rows:List (List AV)) (x y:AV) (s:St) (K:St→Prop):Option (Option Nat)→Prop
 | some (some j)=>K (s.seth i (.map clock births (rows.set j [x,y])))
 | some none=>K (s.seth i (.map (clock+1) (births++[clock]) (rows++[[x,y]])))
 | none=>False
def putO (P:Program) (kt:TypeId) (i:Nat) (x y:AV) (s:St) (K:St→Prop):Ob→Prop
 | .map clock births rows=>isKeyA (tyOf P kt).d x=true∧y.pure=true∧putR i clock births rows x y s K (findA (tyOf P kt).d x rows 0)
 | _=>False
theorem putW_mp {i:Nat} {x y:AV} {K:St→Prop}:putW P ⟨.map kt et,n0,b,hz,z⟩ (.mp i) x y s K=putO P kt i x y s K (s.hp.getD i .dead):=by
 unfold putW putO putR
 rfl
theorem putO_map {i clock:Nat} {births:List Nat} {rows:List (List AV)} {x y:AV} {K:St→Prop}:putO P kt i x y s K (.map clock births rows)=(isKeyA (tyOf P kt).d x=true∧y.pure=true∧putR i clock births rows x y s K (findA (tyOf P kt).d x rows 0)):=rfl
theorem putR_yes {i clock:Nat} {births:List Nat} {rows:List (List AV)} {x y:AV} {K:St→Prop} {j:Nat}:putR i clock births rows x y s K (some (some j))=K (s.seth i (.map clock births (rows.set j [x,y]))):=rfl
theorem putR_no {i clock:Nat} {births:List Nat} {rows:List (List AV)} {x y:AV} {K:St→Prop}:putR i clock births rows x y s K (some none)=K (s.seth i (.map (clock+1) (births++[clock]) (rows++[[x,y]]))):=rfl
theorem makeMapW_none {d:Nat} {K:AV→St→Prop}:makeMapW ⟨.map kt et,n0,b,hz,z⟩ (some d) none s K=(dead s d∧K (.mp d) (s.seth d (.map 0 [] []))):=rfl
theorem makeMapW_some {d:Nat} {q:IntKind} {n:Int} {K:AV→St→Prop}:makeMapW ⟨.map kt et,n0,b,hz,z⟩ (some d) (some (.int q n)) s K=(dead s d∧K (.mp d) (s.seth d (.map 0 [] []))):=rfl
theorem isKeyA_int {q:IntKind} {n:Int}:isKeyA (.int q) (.int q n)=true:=by simp [isKeyA]
theorem isKeyA_str {v:ByteArray}:isKeyA .str (.str v)=true:=rfl
def mapMO:Ob→Option (Nat × List Nat × List (List AV))
 | .map clock births rows=>some (clock,births,rows)
 | _=>none
theorem mapM_mp {i:Nat}:mapM (.mp i) hp=mapMO (hp.getD i .dead):=by unfold mapM mapMO;rfl
theorem mapM_md {c:Nat} {bs:List Nat} {rows:List (List AV)}:mapM (.md c bs rows) hp=some (c,bs,rows):=rfl
theorem mapMO_map {c:Nat} {bs:List Nat} {rows:List (List AV)}:mapMO (.map c bs rows)=some (c,bs,rows):=rfl
def rangeO (d:Nat) (m:AV) (s:St) (K:AV→St→Prop):Option (Nat × List Nat × List (List AV))→Prop
 | some (clock,_,_)=>dead s d∧K (.it d) (s.seth d (.iter m clock [] clock))
 | none=>False
theorem rangeW_map {d:Nat} {m:AV} {K:AV→St→Prop}:rangeW ⟨.map kt et,n0,b,hz,z⟩ (some d) m s K=rangeO d m s K (mapM m s.hp):=by
 unfold rangeW rangeO
 dsimp only
 cases mapM m s.hp <;> rfl
theorem rangeO_some {d c:Nat} {m:AV} {bs:List Nat} {rows:List (List AV)} {K:AV→St→Prop}:rangeO d m s K (some (c,bs,rows))=(dead s d∧K (.it d) (s.seth d (.iter m c [] c))):=rfl
def nextR (i:Nat) (m:AV) (since:Nat) (seen:List Nat) (stepped:Nat) (s:St) (K:AV→St→Prop):Option (Nat × List Nat × List (List AV))→Prop
 | some (clock,births,rows)=>since≤stepped∧(∀ x∈births,x<since)∧((∀ x∈births,x∈seen)→K (.tup [.bool false]) s) ∧
   (∀ (j:Nat) (x:Nat),births[j]?=some x→x∉seen→K (.tup [.bool true,(rows.getD j []).getD 0 .any,(rows.getD j []).getD 1 .any]) (s.seth i (.iter m since (seen++[x]) clock)))
 | none=>False
def nextO (i:Nat) (s:St) (K:AV→St→Prop):Ob→Prop
 | .iter m since seen stepped=>nextR i m since seen stepped s K (mapM m s.hp)
 | _=>False
theorem nextW_it {i:Nat} {K:AV→St→Prop}:nextW (.it i) s K=nextO i s K (s.hp.getD i .dead):=by
 unfold nextW nextO nextR
 rfl
theorem nextO_iter {i since stepped:Nat} {m:AV} {seen:List Nat} {K:AV→St→Prop}:nextO i s K (.iter m since seen stepped)=nextR i m since seen stepped s K (mapM m s.hp):=rfl
theorem nextR_some {i since stepped clock:Nat} {m:AV} {seen births:List Nat} {rows:List (List AV)} {K:AV→St→Prop}:nextR i m since seen stepped s K (some (clock,births,rows))=(since≤stepped∧(∀ x∈births,x<since)∧((∀ x∈births,x∈seen)→K (.tup [.bool false]) s) ∧
   (∀ (j:Nat) (x:Nat),births[j]?=some x→x∉seen→K (.tup [.bool true,(rows.getD j []).getD 0 .any,(rows.getD j []).getD 1 .any]) (s.seth i (.iter m since (seen++[x]) clock)))):=rfl
def entR (seen:List Nat) (stepped:Nat) (K:AV→Prop):Option (Nat × List Nat × List (List AV))→Prop
 | some (clock,births,rows)=>clock=stepped∧∃ (j x:Nat),seen.getLast?=some x∧births[j]?=some x∧K (.tup [(rows.getD j []).getD 0 .any,(rows.getD j []).getD 1 .any])
 | none=>False
def entO (s:St) (K:AV→Prop):Ob→Prop
 | .iter m since seen stepped=>entR seen stepped K (mapM m s.hp)
 | _=>False
theorem entryW_it {i:Nat} {K:AV→Prop}:entryW (.it i) s K=entO s K (s.hp.getD i .dead):=by
 unfold entryW entO entR
 rfl
theorem entO_iter {since stepped:Nat} {m:AV} {seen:List Nat} {K:AV→Prop}:entO s K (.iter m since seen stepped)=entR seen stepped K (mapM m s.hp):=rfl
theorem entR_some {stepped clock:Nat} {seen births:List Nat} {rows:List (List AV)} {K:AV→Prop}:entR seen stepped K (some (clock,births,rows))=(clock=stepped∧∃ (j x:Nat),seen.getLast?=some x∧births[j]?=some x∧K (.tup [(rows.getD j []).getD 0 .any,(rows.getD j []).getD 1 .any])):=rfl
def delR (i clock:Nat) (births:List Nat) (rows:List (List AV)) (s:St) (K:St→Prop):Option (Option Nat)→Prop
 | some (some j)=>K (s.seth i (.map clock (births.eraseIdx j) (rows.eraseIdx j)))
 | some none=>K (s.seth i (.map clock births rows))
 | none=>False
def delO (P:Program) (kt:TypeId) (i:Nat) (x:AV) (s:St) (K:St→Prop):Ob→Prop
 | .map clock births rows=>isKeyA (tyOf P kt).d x=true∧delR i clock births rows s K (findA (tyOf P kt).d x rows 0)
 | _=>False
theorem delW_mp {i:Nat} {x:AV} {K:St→Prop}:delW P ⟨.map kt et,n0,b,hz,z⟩ (.mp i) x s K=delO P kt i x s K (s.hp.getD i .dead):=by
 unfold delW delO delR
 rfl
theorem delO_map {i clock:Nat} {births:List Nat} {rows:List (List AV)} {x:AV} {K:St→Prop}:delO P kt i x s K (.map clock births rows)=(isKeyA (tyOf P kt).d x=true∧delR i clock births rows s K (findA (tyOf P kt).d x rows 0)):=rfl
theorem delR_yes {i clock:Nat} {births:List Nat} {rows:List (List AV)} {K:St→Prop} {j:Nat}:delR i clock births rows s K (some (some j))=K (s.seth i (.map clock (births.eraseIdx j) (rows.eraseIdx j))):=rfl
theorem delR_no {i clock:Nat} {births:List Nat} {rows:List (List AV)} {K:St→Prop}:delR i clock births rows s K (some none)=K (s.seth i (.map clock births rows)):=rfl
end
end Go.Proofs.YtjmkfbhecgkbmaaGreat.Vm
namespace Go.Proofs.YtjmkfbhecgkbmaaGreat.Vm
open Go Go.RowKit
def NewMA (base:Nat) (w:World) (F:Nat→Prop) (clock:Nat) (births:List Nat) (rows:List (List AV)) (v:Value):Prop :=
 ∃ b ents,base≤b∧v = .map (some b)∧w.heap[b]?=some (.map ents clock)∧ents.toList.map (·.born)=births∧Births clock births∧RpR w (fun c=>F c∨c=b) noPl rows (entRows ents)
abbrev MapR:=Option (Nat × List Nat × List (List AV))
def NewMV (base:Nat) (w:World) (F:Nat→Prop) (v:Value):MapR→Prop
 | none=>v = .tuple #[.map none,.bool false]
 | some (clock,births,rows)=>∃ m,v = .tuple #[m,.bool true]∧NewMA base w F clock births rows m
def NewMB (P:Program) (g:FuncId) (args:List AV) (R:MapR→Prop):Prop :=
 ∀ (w:World) (vals:List Value) (F:Nat→Prop),(∀ k,F k→k<w.heap.size)→Rps w F noPl args vals →
  Calls P g vals.toArray w fun e w'=>∃ v r,e = .returned v∧R r∧Below w.heap.size w w'∧NewMV w.heap.size w' F v r
def newMK (R:MapR→Prop) (hp:List Ob):AV→Prop
 | .tup [.nilmp,.bool false]=>R none
 | .tup [.mp i,.bool true]=>∃ clock births rows,hp[i]?=some (.map clock births rows)∧R (some (clock,births,rows))
 | _=>False
def newMQ (P:Program) (rs:List ResultVar) (R:MapR→Prop):Exit→St→Prop
 | .normal,s=>resW P s rs fun xs=>newMK R s.hp (asOne xs)
 | .ret,s=>resW P s rs fun xs=>newMK R s.hp (asOne xs)
 | _,_=>False
theorem newMB_of_W {P:Program} {g:FuncId} {fn:Func} {c:Code} {args:List AV} {R:MapR→Prop} (hf:P.funcs[g]?=some fn) (hb:fn.body=some c) {rs:List ResultVar} (hrs:fn.results.toList=rs) {nt:Nat} (hn:fn.ntmps=nt)
  (h:W P [] c (newMQ P rs R) ⟨args++List.replicate (nt-args.length) .und,List.replicate nt .dead⟩):NewMB P g args R:=by
 subst hrs;subst hn
 intro w vals F hF hv
 have hlen:=hv.length
 refine calls_of_wp hf hb ?_
 let fr:Fr:=⟨w.heap.size,w,F,fun _=>False,[],noPl,fun _ _ h=>h⟩
 have hA:Av F noPl=F:=by
  funext k
  simp [Av,noPl]
 have hrep:Rep fr noPl ⟨args++List.replicate (fn.ntmps-args.length) .und,List.replicate fn.ntmps .dead⟩ { tmps:=vals.toArray++Array.replicate (fn.ntmps-vals.toArray.size) undef,defers:=[] } w:=by
  refine { keep:=⟨rfl,rfl,rfl,Nat.le_refl _,fun _ _ _=>rfl⟩,base:=Nat.le_refl _,defers:=rfl,heap:=fun i=>?_,inj:=(fun i j p q b hi=>by cases hi),mine:=(fun i p b hi=>by cases hi),fF:=hF,pin:=(fun i hi=>by cases hi),env:=?_ }
  ·show HRo _ _ _ ((List.replicate fn.ntmps Ob.dead).getD i .dead) _
   rw [show (List.replicate fn.ntmps Ob.dead).getD i .dead = .dead by
    rw [List.getD_eq_getElem?_getD,List.getElem?_replicate];split <;> rfl]
   rfl
  ·show Rps w (Av F noPl) noPl _ _
   rw [hA]
   have h1:(vals.toArray++Array.replicate (fn.ntmps-vals.toArray.size) undef).toList=vals++List.replicate (fn.ntmps-args.length) undef:=by
    simp [hlen]
   rw [h1]
   refine hv.append (Rps.mk (by simp) fun i x v hx hv=>?_)
   rw [List.getElem?_replicate] at hx hv
   split at hx
   ·rename_i hi;rw [if_pos hi] at hv;cases hx;cases hv;simp only [Rp]
   ·cases hx
 refine Code.wp_mono (fun e a' w' he=>?_) (h fr noPl _ w rfl hrep)
 obtain ⟨s,ρ,hq,hr⟩:=he
 have fin:resW P s fn.results.toList (fun xs=>newMK R s.hp (asOne xs))→a'.defers=[]∧∃ v,(results fn a'.tmps).run P w' = .ok v w'∧∃ v2 r,Ending.returned v = .returned v2∧R r∧Below w.heap.size w w'∧NewMV w.heap.size w' F v2 r:=by
  intro hk
  obtain ⟨xs,v,h1,h2,h3⟩:=results_sound hr fn hk
  have hbel:Below w.heap.size w w':=⟨hr.keep.os,hr.keep.tape,hr.keep.output,hr.keep.size,fun k hk=>hr.keep.block k hk (fun h=>h)⟩
  refine ⟨hr.defers,v,h2,?_⟩
  generalize asOne xs=x at h1 h3
  unfold newMK at h1
  split at h1
  ·simp only [Rp,Rps] at h3
   obtain ⟨vs,rfl,_,_,rfl,rfl,_,_,rfl,rfl,rfl⟩:=h3
   exact ⟨_,none,rfl,h1,hbel,rfl⟩
  ·rename_i i
   obtain ⟨clock,births,rows,hi,hR⟩:=h1
   have ho:=hr.heap i
   rw [show s.hp.getD i .dead = .map clock births rows by simp [List.getD_eq_getElem?_getD,hi]] at ho
   simp only [Rp,Rps] at h3
   obtain ⟨vs,rfl,_,_,rfl,⟨b,g1,rfl⟩,_,_,rfl,rfl,rfl⟩:=h3
   rw [g1] at ho
   obtain ⟨ents,e1,e2,e3,e4⟩:=ho
   refine ⟨_,some (clock,births,rows),rfl,hR,hbel,_,rfl,b,ents,?_,rfl,e1,e2,e3,?_⟩
   ·rcases hr.mine i _ b g1 rfl with h4 | h4
    ·exact h4
    ·exact h4.elim
   ·exact RpR.later (ρ:=noPl) _ ⟨Nat.le_refl _,fun c _ hc=>by
     rcases hc with hc | rfl
     ·exact .inl hc
     ·exact .inr ⟨i,_,g1,rfl⟩,fun _ _ _=>rfl,fun _ _ h=>h⟩ e4
  ·exact h1.elim
 cases e with
 | normal=>exact fin hq
 | ret=>exact fin hq
 | _=>exact hq.elim
theorem NewMB.pure {P:Program} {g:FuncId} {args:List AV} {R:MapR→Prop} (h:NewMB P g args R):Pure P g args (fun r=>(R none∧r = .tup [.nilmp,.bool false])∨∃ clock births rows,R (some (clock,births,rows))∧r = .tup [.md clock births rows,.bool true]):=by
 intro w vals F hF hv
 refine (h w vals F hF hv).mono fun e w' he=>?_
 obtain ⟨v,r,h1,h2,h3,h4⟩:=he
 match r,h2,h4 with
 | none,h2,h4 =>
  have h4':v = .tuple #[.map none,.bool false]:=h4
  refine ⟨v,_,h1,.inl ⟨h2,rfl⟩,h3,?_⟩
  subst h4'
  simp only [Rp,Rps]
  exact ⟨_,rfl,_,_,rfl,rfl,_,_,rfl,rfl,rfl⟩
 | some (clock,births,rows),h2,h4 =>
  obtain ⟨m,rfl,b,ents,hb,rfl,e1,e2,e3,e4⟩:=h4
  refine ⟨_,_,h1,.inr ⟨_,_,_,h2,rfl⟩,h3,?_⟩
  simp only [Rp,Rps]
  refine ⟨_,rfl,_,_,rfl,⟨b,ents,rfl,fun hFb=>?_,(Array.getElem?_eq_some_iff.1 e1).1,e1,e2,e3,RpR.later (ρ:=noPl) _ ⟨Nat.le_refl _,fun c _ hc => .inl hc,fun _ _ _=>rfl,fun _ _ h=>h⟩ e4⟩,_,_,rfl,rfl,rfl⟩
  have:=hF b hFb
  omega
theorem froz_mp {i:Nat} {rows:List (List AV)} {j:Nat}:AV.froz i rows (.mp j)=(if j=i then .any else .mp j):=by simp only [AV.froz]
theorem froz_it {i:Nat} {rows:List (List AV)} {j:Nat}:AV.froz i rows (.it j)=(if j=i then .any else .it j):=by simp only [AV.froz]
theorem froz_md {i:Nat} {rows:List (List AV)} {c:Nat} {bs:List Nat} {rs:List (List AV)}:AV.froz i rows (.md c bs rs) = .md c bs rs:=by simp only [AV.froz]
theorem froz_map {i:Nat} {rows:List (List AV)} {c:Nat} {bs:List Nat} {rs:List (List AV)}:Ob.froz i rows (.map c bs rs) = .map c bs rs:=id rfl
theorem froz_iter {i:Nat} {rows:List (List AV)} {m:AV} {a c:Nat} {bs:List Nat}:Ob.froz i rows (.iter m a bs c) = .iter (m.froz i rows) a bs c:=id rfl
theorem kill_mp {i:Nat} {j:Nat}:AV.kill i (.mp j)=(if j=i then .any else .mp j):=by simp only [AV.kill]
theorem kill_it {i:Nat} {j:Nat}:AV.kill i (.it j)=(if j=i then .any else .it j):=by simp only [AV.kill]
theorem kill_md {i:Nat} {c:Nat} {bs:List Nat} {rs:List (List AV)}:AV.kill i (.md c bs rs) = .md c bs rs:=by simp only [AV.kill]
theorem kill_map {i:Nat} {c:Nat} {bs:List Nat} {rs:List (List AV)}:Ob.kill i (.map c bs rs) = .map c bs rs:=id rfl
theorem kill_iter {i:Nat} {m:AV} {a c:Nat} {bs:List Nat}:Ob.kill i (.iter m a bs c) = .iter (m.kill i) a bs c:=id rfl
theorem cst_nilmp:cstV (.map none) = .nilmp:=id rfl
end Go.Proofs.YtjmkfbhecgkbmaaGreat.Vm
namespace Go.Proofs.YtjmkfbhecgkbmaaGreat.Vm
open Go
def val:List Nat→Nat
 | []=>0
 | x::l=>x+4294967296*val l
def Limbs (l:List Nat):Prop:=∀ x∈l,x<4294967296
def limbs (n:Nat):List Nat:=if h:n=0 then [] else (n%4294967296)::limbs (n / 4294967296)
 termination_by n
 decreasing_by omega
def cN (n:Nat):AV:=cNat (limbs n)
theorem limbs_zero:limbs 0=[]:=by unfold limbs;simp
theorem limbs_pos {n:Nat} (h:n≠0):limbs n=(n%4294967296)::limbs (n / 4294967296):=by
 conv=>lhs;unfold limbs
 simp [h]
theorem limbs_limbs (n:Nat):Limbs (limbs n):=by
 induction n using Nat.strongRecOn with
 | _ n ih =>
  by_cases h:n=0
  ·subst h;rw [limbs_zero];intro x hx;cases hx
  ·rw [limbs_pos h]
   intro x hx
   rcases List.mem_cons.1 hx with rfl | hx
   ·omega
   ·exact ih _ (by omega) x hx
theorem val_limbs (n:Nat):val (limbs n)=n:=by
 induction n using Nat.strongRecOn with
 | _ n ih =>
  by_cases h:n=0
  ·subst h;rw [limbs_zero];rfl
  ·rw [limbs_pos h,val,ih _ (by omega)]
   omega
theorem val_append (l m:List Nat):val (l++m)=val l+4294967296^l.length*val m:=by
 induction l with
 | nil=>simp [val]
 | cons x l ih =>
  simp only [List.cons_append,val,ih,List.length_cons,Nat.pow_succ,Nat.mul_add]
  rw [Nat.mul_comm (4294967296^l.length) 4294967296,Nat.mul_assoc,Nat.add_assoc]
theorem val_lt {l:List Nat} (h:Limbs l):val l<4294967296^l.length:=by
 induction l with
 | nil=>simp [val]
 | cons x l ih =>
  have h1:=h x List.mem_cons_self
  have h2:=ih fun y hy=>h y (List.mem_cons_of_mem _ hy)
  simp only [val,List.length_cons,Nat.pow_succ]
  omega
theorem val_zeros (n:Nat):val (List.replicate n 0)=0:=by
 induction n with
 | zero=>rfl
 | succ n ih=>simp [List.replicate_succ,val,ih]
theorem Limbs.tail {x:Nat} {l:List Nat} (h:Limbs (x::l)):Limbs l:=fun y hy=>h y (List.mem_cons_of_mem _ hy)
theorem Limbs.take {l:List Nat} (h:Limbs l) (n:Nat):Limbs (l.take n):=fun y hy=>h y (List.mem_of_mem_take hy)
theorem Limbs.drop {l:List Nat} (h:Limbs l) (n:Nat):Limbs (l.drop n):=fun y hy=>h y (List.mem_of_mem_drop hy)
theorem Limbs.append {l m:List Nat} (h:Limbs l) (h':Limbs m):Limbs (l++m):=fun y hy=>by
 rcases List.mem_append.1 hy with hy | hy
 ·exact h y hy
 ·exact h' y hy
theorem Limbs.set {l:List Nat} (h:Limbs l) (i:Nat) {x:Nat} (hx:x<4294967296):Limbs (l.set i x):=fun y hy=>by
 rcases List.mem_or_eq_of_mem_set hy with hy | rfl
 ·exact h y hy
 ·exact hx
theorem Limbs.rep (n:Nat):Limbs (List.replicate n 0):=fun y hy=>by
 rw [(List.mem_replicate.1 hy).2];omega
theorem Limbs.getD {l:List Nat} (h:Limbs l) (i:Nat):l.getD i 0<4294967296:=by
 rw [List.getD_eq_getElem?_getD]
 cases hi:l[i]? with
 | none=>simp
 | some x=>simpa using h x (List.mem_of_getElem? hi)
def cutLen (l:List Nat):Nat→Nat
 | 0=>0
 | n+1=>if l.getD n 0=0 then cutLen l n else n+1
def trim (l:List Nat):List Nat:=l.take (cutLen l l.length)
theorem cutLen_le (l:List Nat):∀ n,cutLen l n≤n
 | 0=>Nat.le_refl _
 | n+1=>by
  unfold cutLen
  split
  ·exact Nat.le_succ_of_le (cutLen_le l n)
  ·exact Nat.le_refl _
theorem limbs_val {l:List Nat} (h:Limbs l) (hn:∀ x,l.getLast?=some x→x≠0):limbs (val l)=l:=by
 induction l with
 | nil=>exact limbs_zero
 | cons x l ih =>
  have hx:=h x List.mem_cons_self
  have hl:limbs (val l)=l:=ih h.tail fun y hy=>by
   cases l with
   | nil=>cases hy
   | cons z l=>exact hn y (by rw [List.getLast?_cons_cons];exact hy)
  have hne:x+4294967296*val l≠0:=by
   intro h0
   cases l with
   | nil=>exact hn x rfl (by omega)
   | cons z l =>
    have:val (z::l)=0:=by omega
    rw [this,limbs_zero] at hl
    cases hl
  rw [val,limbs_pos hne]
  congr 1
  ·omega
  ·rw [show (x+4294967296*val l) / 4294967296=val l by omega]
   exact hl
theorem take_cutLen (l:List Nat):∀ n,n≤l.length→(l.take n)=l.take (cutLen l n)++List.replicate (n-cutLen l n) 0∧∀ x,(l.take (cutLen l n)).getLast?=some x→x≠0
 | 0,_=>by simp [cutLen]
 | n+1,hn=>by
  unfold cutLen
  have hlt:n<l.length:=by omega
  have hg:l.getD n 0=l[n]:=by simp [List.getD_eq_getElem?_getD,hlt]
  split
  ·rename_i h0
   obtain ⟨h1,h2⟩:=take_cutLen l n (by omega)
   refine ⟨?_,h2⟩
   have:=cutLen_le l n
   rw [show n+1-cutLen l n=(n-cutLen l n)+1 by omega,List.replicate_succ',← List.append_assoc,← h1,List.take_succ_eq_append_getElem hlt,← hg,h0]
  ·rename_i h0
   refine ⟨by simp,fun x hx=>?_⟩
   rw [List.take_succ_eq_append_getElem hlt] at hx
   rw [List.getLast?_append] at hx
   simp only [List.getLast?_singleton,Option.some_or,Option.some.injEq] at hx
   rw [← hx,← hg]
   exact h0
theorem trim_eq {l:List Nat} (h:Limbs l):trim l=limbs (val l):=by
 obtain ⟨h1,h2⟩:=take_cutLen l l.length (Nat.le_refl _)
 rw [List.take_length] at h1
 have h3:val l=val (trim l):=by
  conv=>lhs;rw [h1]
  rw [val_append,val_zeros]
  simp [trim]
 rw [h3]
 exact (limbs_val (h.take _) h2).symm
theorem limbs_eq_nil {n:Nat}:limbs n=[]↔n=0:=by
 constructor
 ·intro h
  by_cases h0:n=0
  ·exact h0
  ·rw [limbs_pos h0] at h;cases h
 ·rintro rfl;exact limbs_zero
theorem limbs_length_le {n k:Nat} (h:n<4294967296^k):(limbs n).length≤k:=by
 induction k generalizing n with
 | zero=>rw [show n=0 by simpa using h,limbs_zero];simp
 | succ k ih =>
  by_cases h0:n=0
  ·subst h0;rw [limbs_zero];simp
  ·rw [limbs_pos h0,List.length_cons]
   have:=ih (n:=n / 4294967296) (by rw [Nat.pow_succ] at h;omega)
   omega
theorem trim_length (l:List Nat):(trim l).length≤l.length:=by
 unfold trim
 rw [List.length_take]
 exact Nat.min_le_right _ _
theorem limbs_val_length {l:List Nat} (h:Limbs l):(limbs (val l)).length≤l.length:=limbs_length_le (val_lt h)
theorem bit_and (a b:Nat):(a &&& b) / 2^31=(a / 2^31) &&& (b / 2^31):=by
 rw [← Nat.shiftRight_eq_div_pow,← Nat.shiftRight_eq_div_pow,← Nat.shiftRight_eq_div_pow,Nat.shiftRight_and_distrib]
theorem bit_or (a b:Nat):(a ||| b) / 2^31=(a / 2^31) ||| (b / 2^31):=by
 rw [← Nat.shiftRight_eq_div_pow,← Nat.shiftRight_eq_div_pow,← Nat.shiftRight_eq_div_pow,Nat.shiftRight_or_distrib]
theorem bit_xor (a b:Nat):(a ^^^ b) / 2^31=(a / 2^31) ^^^ (b / 2^31):=by
 rw [← Nat.shiftRight_eq_div_pow,← Nat.shiftRight_eq_div_pow,← Nat.shiftRight_eq_div_pow,Nat.shiftRight_xor_distrib]
theorem borrow {x y c d:Nat} (hx:x<4294967296) (hy:y<4294967296) (hc:c<2) (hd:d=(x+2*4294967296-y-c)%4294967296) :
  (((4294967295-x) &&& y) ||| ((4294967295-(x ^^^ y)) &&& d)) / 2^31=if x<y+c then 1 else 0:=by
 have hxy:(x ^^^ y)<4294967296:=Nat.xor_lt_two_pow (n:=32) hx hy
 have h1:=bit_xor x y
 rw [bit_or,bit_and,bit_and]
 have e1:(4294967295-x) / 2^31=1-x / 2^31:=by omega
 have e2:(4294967295-(x ^^^ y)) / 2^31=1-(x ^^^ y) / 2^31:=by omega
 rw [e1,e2,h1]
 have hX:x / 2^31=0∨x / 2^31=1:=by omega
 have hY:y / 2^31=0∨y / 2^31=1:=by omega
 have hD:d / 2^31=0∨d / 2^31=1:=by omega
 rcases hX with hX | hX <;> rcases hY with hY | hY <;> rcases hD with hD | hD <;> rw [hX,hY,hD] <;> simp <;> omega
theorem val_take_succ (l:List Nat) (i:Nat):val (l.take (i+1))=val (l.take i)+4294967296^i*l.getD i 0:=by
 by_cases h:i<l.length
 ·rw [List.take_succ_eq_append_getElem h,val_append,List.length_take,Nat.min_eq_left (by omega)]
  simp [val,List.getD_eq_getElem?_getD,h]
 ·rw [List.take_of_length_le (by omega),List.take_of_length_le (by omega)]
  simp [List.getD_eq_getElem?_getD,show l.length≤i by omega]
theorem take_set_succ {l:List Nat} {i:Nat} (h:i<l.length) (d:Nat):(l.set i d).take (i+1)=l.take i++[d]:=by
 rw [List.take_succ_eq_append_getElem (by simpa using h),List.take_set_of_le (Nat.le_refl _),List.getElem_set_self]
theorem val_take_set {l:List Nat} {i:Nat} (h:i<l.length) (d:Nat):val ((l.set i d).take (i+1))=val (l.take i)+4294967296^i*d:=by
 rw [take_set_succ h,val_append,List.length_take,Nat.min_eq_left (by omega)]
 simp [val]
theorem add_round {A X Y P x y c s k:Nat} (h:A+P*c=X+Y) (hs:s+4294967296*k=x+y+c):(A+P*s)+P*4294967296*k=(X+P*x)+(Y+P*y):=by
 have h2:P*(s+4294967296*k)=P*(x+y+c):=by rw [hs]
 simp only [Nat.mul_add] at h2
 rw [Nat.mul_assoc]
 omega
def sgn (a b:Nat):Int:=if a<b then -1 else if b<a then 1 else 0
theorem limbs_mono {a b:Nat} (h:a≤b):(limbs a).length≤(limbs b).length:=by
 have:=val_lt (limbs_limbs b)
 rw [val_limbs] at this
 exact limbs_length_le (Nat.lt_of_le_of_lt h this)
theorem val_split {l:List Nat} {i:Nat} (h:i<l.length):val l=val (l.take i)+4294967296^i*(l.getD i 0+4294967296*val (l.drop (i+1))):=by
 conv=>lhs;rw [← List.take_append_drop i l]
 rw [val_append,List.length_take,Nat.min_eq_left (by omega),List.drop_eq_getElem_cons h,val]
 simp [List.getD_eq_getElem?_getD,h]
theorem val_lt_of_top {l m:List Nat} {i:Nat} (hl:Limbs l) (h1:i<l.length) (h2:i<m.length) (hd:l.drop (i+1)=m.drop (i+1)) (hlt:l.getD i 0<m.getD i 0):val l<val m:=by
 rw [val_split h1,val_split h2,hd]
 have h3:val (l.take i)<4294967296^i:=by
  have:=val_lt (hl.take i)
  rwa [List.length_take,Nat.min_eq_left (by omega)] at this
 have h4:4294967296^i*(l.getD i 0+4294967296*val (m.drop (i+1))+1)≤4294967296^i*(m.getD i 0+4294967296*val (m.drop (i+1))):=Nat.mul_le_mul_left _ (by omega)
 rw [Nat.mul_add,Nat.mul_one] at h4
 omega
theorem sub_round {A Y X P b s y x k:Nat} (h:A+Y=X+P*b) (hs:s+y+b=x+4294967296*k):(A+P*s)+(Y+P*y)=(X+P*x)+P*4294967296*k:=by
 have h2:P*(s+y+b)=P*(x+4294967296*k):=by rw [hs]
 simp only [Nat.mul_add] at h2
 rw [Nat.mul_assoc]
 omega
theorem val_set {l:List Nat} {p:Nat} (h:p<l.length) (s:Nat):val (l.set p s)+4294967296^p*l.getD p 0=val l+4294967296^p*s:=by
 have h1:=val_split h
 have h2:=val_split (l:=l.set p s) (i:=p) (by simpa using h)
 rw [List.take_set_of_le (Nat.le_refl _),List.drop_set_of_lt (by omega)] at h2
 have h3:(l.set p s).getD p 0=s:=by simp [List.getD_eq_getElem?_getD,h]
 rw [h3] at h2
 rw [h1,h2,Nat.mul_add,Nat.mul_add]
 omega
theorem mul_round {v v' v0 P Q a V m s k old:Nat} (h:v+P*k=v0+Q*a*V) (hset:v'+P*old=v+P*s) {k':Nat} (hs:s+4294967296*k'=a*m+old+k) {M:Nat} (hP:P=Q*M):v'+P*4294967296*k'=v0+Q*a*(V+M*m):=by
 have h2:P*(s+4294967296*k')=P*(a*m+old+k):=by rw [hs]
 simp only [Nat.mul_add] at h2 ⊢
 have h3:Q*a*(M*m)=P*(a*m):=by rw [hP];simp only [Nat.mul_assoc,Nat.mul_left_comm,Nat.mul_comm]
 rw [h3,Nat.mul_assoc P]
 omega
def padL (n v:Nat):List Nat:=limbs v++List.replicate (n-(limbs v).length) 0
theorem padL_eq {c:List Nat} (h:Limbs c):padL c.length (val c)=c:=by
 obtain ⟨h1,h2⟩:=take_cutLen c c.length (Nat.le_refl _)
 rw [List.take_length] at h1
 have h3:=trim_eq h
 unfold trim at h3
 have h4:=cutLen_le c c.length
 unfold padL
 rw [← h3,List.length_take,Nat.min_eq_left h4]
 exact h1.symm
theorem padL_of {c:List Nat} {n v:Nat} (h:Limbs c) (h1:c.length=n) (h2:val c=v):c=padL n v:=by
 rw [← h1,← h2,padL_eq h]
theorem drop_set_self {l:List Nat} {i:Nat} (h:i<l.length) (d:Nat):(l.set i d).drop i=d::l.drop (i+1):=by
 rw [List.drop_eq_getElem_cons (by simpa using h),List.getElem_set_self,List.drop_set_of_lt (by omega)]
theorem drop_getD {l:List Nat} {i:Nat} (h:i<l.length):l.drop i=l.getD i 0::l.drop (i+1):=by
 rw [List.drop_eq_getElem_cons h]
 simp [List.getD_eq_getElem?_getD,h]
def put (w:List Nat) (off:Nat) (c:List Nat):List Nat:=w.take off++c++w.drop (off+c.length)
theorem put_length {w c:List Nat} {off:Nat} (h:off+c.length≤w.length):(put w off c).length=w.length:=by
 simp only [put,List.length_append,List.length_take,List.length_drop];omega
theorem put_getD {w c:List Nat} {off i:Nat} (h:off+c.length≤w.length) (hi:i<c.length):(put w off c).getD (off+i) 0=c.getD i 0:=by
 simp only [put,List.getD_eq_getElem?_getD,List.append_assoc]
 rw [List.getElem?_append_right (by simp;omega),List.getElem?_append_left (by simp;omega)]
 congr 2
 simp
 omega
theorem put_set {w c:List Nat} {off i:Nat} (h:off+c.length≤w.length) (hi:i<c.length) (d:Nat):(put w off c).set (off+i) d=put w off (c.set i d):=by
 have h1:(w.take off).length=off:=by rw [List.length_take];omega
 simp only [put,List.append_assoc,List.length_set]
 rw [List.set_append_right _ _ (by omega),h1,Nat.add_sub_cancel_left,List.set_append_left _ _ hi]
theorem put_self {w:List Nat} {off n:Nat} (h:off+n≤w.length):put w off ((w.drop off).take n)=w:=by
 have h1:((w.drop off).take n).length=n:=by simp;omega
 simp only [put,h1]
 rw [← List.drop_drop,List.append_assoc,List.take_append_drop,List.take_append_drop]
theorem put_limbs {w c:List Nat} {off:Nat} (h:Limbs w) (hc:Limbs c):Limbs (put w off c):=((h.take _).append hc).append (h.drop _)
structure DigitH (q a x T z:Nat):Prop where
 a0:2147483648≤a
 a1:a<4294967296
 x1:x<4294967296
 z1:z<4294967296
 t1:T<18446744073709551616
 q1:q<4294967296
 g0:T / a≤4294967297
 qv:q*(a*4294967296+x)≤T*4294967296+z
theorem digit_start {q a x T z:Nat} (h:DigitH q a x T z):q≤T / a:=by
 have h1:=h.qv;have h2:=h.a0;have h3:=h.z1
 rw [Nat.le_div_iff_mul_le (by omega)]
 rw [Nat.mul_add,← Nat.mul_assoc] at h1
 omega
theorem digit_step {q a x T z g r:Nat} (h:DigitH q a x T z) (hg:g*a+r=T) (hq:q≤g) (hc:4294967296≤g∨r*4294967296+z<g*x):q≤g-1∧0<g∧(g-1)*a+(r+a)=T:=by
 have h1:=h.qv;have h2:=h.q1
 have hlt:q<g:=by
  rcases hc with hc | hc
  ·omega
  ·refine Nat.lt_of_le_of_ne hq fun he=>?_
   subst he
   rw [Nat.mul_add,← Nat.mul_assoc] at h1
   rw [← hg] at h1
   omega
 refine ⟨by omega,by omega,?_⟩
 obtain ⟨m,rfl⟩:∃ m,g=m+1:=⟨g-1,by omega⟩
 rw [Nat.add_mul] at hg
 simp only [Nat.add_sub_cancel]
 omega
theorem digit_done {q a x T z g r:Nat} (h:DigitH q a x T z) (hg:g*a+r=T) (hc:g*x≤r*4294967296+z):g*(a*4294967296+x)≤T*4294967296+z:=by
 rw [Nat.mul_add,← Nat.mul_assoc,← hg]
 omega
theorem digit_break {q a x T z g r:Nat} (h:DigitH q a x T z) (hg:g*a+r=T) (hT:T≤a*4294967296+4294967295) (hr:4294967296≤r):g<4294967296∧g*x≤r*4294967296+z:=by
 have h0:=h.a0;have h1:=h.x1
 have hlt:g<4294967296:=by
  refine Nat.lt_of_not_le fun hle=>?_
  have:4294967296*a≤g*a:=Nat.mul_le_mul_right _ hle
  omega
 refine ⟨hlt,?_⟩
 have:g*x≤4294967296*4294967296:=Nat.mul_le_mul (by omega) (by omega)
 omega
theorem val_top {l:List Nat} {n:Nat} (h:l.length=n+1):val l=val (l.take n)+4294967296^n*l.getD n 0:=by
 rw [← val_take_succ,List.take_of_length_le (by omega)]
theorem digit_core {B P a x y z y2 lv lu U V q:Nat} (hB:4≤B) (hP:0<P) (ha:B≤2*a) (a1:a<B) (x1:x<B) (z1:z<B) (y1:y<B) (hV:V=lv+P*(a*B+x)) (hU:U=lu+P*((y2*B+y)*B+z)) (l1:lv<P) (l2:lu<P) (hlt:U<B*V) (hq:U / V=q) :
  q<B∧(y2*B+y)≤a*B+(B-1)∧(y2*B+y) / a≤B+1∧q*(a*B+x)≤(y2*B+y)*B+z∧∀ g,g<B→g*(a*B+x)≤(y2*B+y)*B+z→q≤g→g=q∨g=q+1:=by
 have hab:B≤a*B:=Nat.le_mul_of_pos_left _ (by omega)
 have hvpos:0<V:=by
  have:0<P*(a*B+x):=Nat.mul_pos hP (by omega)
  omega
 have hqu:q*V≤U:=by rw [← hq];exact Nat.div_mul_le_self _ _
 have hqu2:U<(q+1)*V:=by
  have:=Nat.lt_div_mul_add hvpos (a:=U)
  rw [hq] at this
  rw [Nat.add_mul];omega
 have hq1:q<B:=by
  rw [← hq];exact Nat.div_lt_of_lt_mul (by rw [Nat.mul_comm];exact hlt)
 clear hq
 have hVlt:V<P*(a*B+x+1):=by rw [Nat.mul_add P _ 1,Nat.mul_one];omega
 have hUlt:U<P*((y2*B+y)*B+z+1):=by rw [Nat.mul_add P _ 1,Nat.mul_one];omega
 have hT:(y2*B+y)≤a*B+(B-1):=by
  refine Nat.le_of_not_lt fun hh=>?_
  have h3:a+1≤y2:=by
   refine Nat.lt_of_not_le fun h4=>?_
   have:y2*B≤a*B:=Nat.mul_le_mul_right _ h4
   omega
  have h4:(a+1)*B≤y2*B:=Nat.mul_le_mul_right _ h3
  have h5:a*B+x+1≤(a+1)*B:=by rw [Nat.add_mul];omega
  have h6:P*(a*B+x+1)≤P*((a+1)*B):=Nat.mul_le_mul_left _ h5
  have h7:(a+1)*B*B≤(y2*B+y)*B:=Nat.mul_le_mul_right _ (by omega)
  have h8:P*((a+1)*B*B)≤P*((y2*B+y)*B+z):=Nat.mul_le_mul_left _ (by omega)
  have h9:B*V≤B*(P*((a+1)*B)):=Nat.mul_le_mul_left _ (by omega)
  have h10:B*(P*((a+1)*B))=P*((a+1)*B*B):=by rw [Nat.mul_comm B,Nat.mul_assoc P]
  omega
 generalize y2*B+y=T at *
 refine ⟨hq1,hT,?_,?_,?_⟩
 ·have:T / a≤(a*B+(B-1)) / a:=Nat.div_le_div_right hT
  rw [Nat.mul_add_div (by omega)] at this
  have h6:(B-1) / a<2:=by
   rw [Nat.div_lt_iff_lt_mul (by omega)];omega
  omega
 ·have h6:q*(P*(a*B+x))≤q*V:=Nat.mul_le_mul_left _ (by omega)
  have h7:P*(q*(a*B+x))<P*(T*B+z+1):=by
   have:P*(q*(a*B+x))=q*(P*(a*B+x)):=by rw [← Nat.mul_assoc,Nat.mul_comm P q,Nat.mul_assoc]
   omega
  have:=Nat.lt_of_mul_lt_mul_left h7
  omega
 ·intro g hg hgv hqg
  have h6:¬ q+2≤g:=by
   intro hge
   obtain ⟨k,rfl⟩:∃ k,g=k+1:=⟨g-1,by omega⟩
   have h7:(q+1)*V≤k*V:=Nat.mul_le_mul_right _ (by omega)
   have h8:k*V≤k*(P*(a*B+x+1)):=Nat.mul_le_mul_left _ (by omega)
   have h9:k*(P*(a*B+x+1))=P*(k*(a*B+x)+k):=by
    rw [← Nat.mul_assoc,Nat.mul_comm k P,Nat.mul_assoc,Nat.mul_add k,Nat.mul_one]
   have h10:P*(k*(a*B+x)+k)≤P*(T*B+z):=by
    refine Nat.mul_le_mul_left _ ?_
    rw [Nat.add_mul,Nat.one_mul] at hgv
    omega
   omega
  omega
theorem top3 (lu P B y2 y z:Nat):lu+P*z+P*B*y+P*B*B*y2=lu+P*((y2*B+y)*B+z):=by
 have h1:P*((y2*B+y)*B)=P*B*y+P*B*B*y2:=by
  rw [Nat.add_mul,Nat.mul_add,Nat.add_comm]
  congr 1
  ·rw [Nat.mul_comm y,Nat.mul_assoc]
  ·rw [Nat.mul_assoc y2,Nat.mul_comm y2,← Nat.mul_assoc,← Nat.mul_assoc]
 rw [Nat.mul_add,h1]
 omega
theorem digit_facts {u v:List Nat} {m:Nat} (hu:Limbs u) (hv:Limbs v) (hvl:v.length=m+2) (hul:u.length=m+3) (ha:2147483648≤v.getD (m+1) 0) (hlt:val u<4294967296*val v) :
  DigitH (val u / val v) (v.getD (m+1) 0) (v.getD m 0) (u.getD (m+2) 0*4294967296+u.getD (m+1) 0) (u.getD m 0) ∧
  u.getD (m+2) 0*4294967296+u.getD (m+1) 0≤v.getD (m+1) 0*4294967296+4294967295 ∧
  ∀ g,g<4294967296→g*(v.getD (m+1) 0*4294967296+v.getD m 0)≤(u.getD (m+2) 0*4294967296+u.getD (m+1) 0)*4294967296+u.getD m 0→val u / val v≤g→g=val u / val v∨g=val u / val v+1:=by
 have e1:=val_top (l:=v) (n:=m+1) hvl
 have e2:=val_take_succ v m
 have e3:=val_top (l:=u) (n:=m+2) hul
 have e4:=val_take_succ u (m+1)
 have e5:=val_take_succ u m
 have l1:val (v.take m)<4294967296^m:=by
  have:=val_lt (hv.take m);rwa [List.length_take,Nat.min_eq_left (by omega)] at this
 have l2:val (u.take m)<4294967296^m:=by
  have:=val_lt (hu.take m);rwa [List.length_take,Nat.min_eq_left (by omega)] at this
 have a1:=hv.getD (m+1);have x1:=hv.getD m;have z1:=hu.getD m;have y1:=hu.getD (m+1);have y2:=hu.getD (m+2)
 rw [e2] at e1
 rw [e4,e5] at e3
 have hP:0<4294967296^m:=Nat.pow_pos (by omega)
 have hv1:val v=val (v.take m)+4294967296^m*(v.getD (m+1) 0*4294967296+v.getD m 0):=by
  rw [e1,Nat.pow_succ,Nat.mul_add,Nat.mul_comm (v.getD (m+1) 0),Nat.mul_assoc];omega
 have hu1:val u=val (u.take m)+4294967296^m*((u.getD (m+2) 0*4294967296+u.getD (m+1) 0)*4294967296+u.getD m 0):=by
  rw [e3,Nat.pow_succ,Nat.pow_succ]
  exact top3 _ _ _ _ _ _
 obtain ⟨h1,h2,h3,h4,h5⟩:=digit_core (B:=4294967296) (by omega) hP (by omega) a1 x1 z1 y1 hv1 hu1 l1 l2 hlt rfl
 exact ⟨⟨ha,a1,x1,z1,by omega,h1,h3,h4⟩,h2,h5⟩
theorem digit_facts' {u v:List Nat} (hu:Limbs u) (hv:Limbs v) (hvl:2≤v.length) (hul:u.length=v.length+1) (ha:2147483648≤v.getD (v.length-1) 0) (hlt:val u<4294967296*val v) :
  DigitH (val u / val v) (v.getD (v.length-1) 0) (v.getD (v.length-2) 0) (u.getD v.length 0*4294967296+u.getD (v.length-1) 0) (u.getD (v.length-2) 0) ∧
  u.getD v.length 0*4294967296+u.getD (v.length-1) 0≤v.getD (v.length-1) 0*4294967296+4294967295 ∧
  ∀ g,g<4294967296→g*(v.getD (v.length-1) 0*4294967296+v.getD (v.length-2) 0)≤(u.getD v.length 0*4294967296+u.getD (v.length-1) 0)*4294967296+u.getD (v.length-2) 0→val u / val v≤g→g=val u / val v∨g=val u / val v+1:=by
 obtain ⟨m,hm⟩:∃ m,v.length=m+2:=⟨v.length-2,by omega⟩
 have e1:v.length-1=m+1:=by omega
 have e2:v.length-2=m:=by omega
 rw [e1] at ha ⊢
 rw [e2,hm]
 exact digit_facts hu hv hm (by omega) ha hlt
theorem or_add32 {a b:Nat} (h:b<4294967296):a*2^32 ||| b=a*4294967296+b:=by
 have:=Nat.two_pow_add_eq_or_of_lt (i:=32) h a
 rw [Nat.mul_comm,← this]
theorem digit_facts2 {u v:List Nat} (hu:Limbs u) (hv:Limbs v) (hvl:2≤v.length) (hul:u.length=v.length+1) (ha:2147483648≤v.getD (v.length-1) 0) (hlt:val u<4294967296*val v) :
  ∃ T q,q=val u / val v∧(u.getD v.length 0*2^32 ||| u.getD (v.length-1) 0)=T∧T<18446744073709551616∧DigitH q (v.getD (v.length-1) 0) (v.getD (v.length-2) 0) T (u.getD (v.length-2) 0) ∧
   (∀ g r,g*v.getD (v.length-1) 0+r=T→4294967296≤r→g<4294967296∧g*v.getD (v.length-2) 0≤r*4294967296+u.getD (v.length-2) 0) ∧
   ∀ g r,g<4294967296→g*v.getD (v.length-1) 0+r=T→g*v.getD (v.length-2) 0≤r*4294967296+u.getD (v.length-2) 0→q≤g→g=q∨g=q+1:=by
 obtain ⟨h1,h2,h3⟩:=digit_facts' hu hv hvl hul ha hlt
 have hor:(u.getD v.length 0*2^32 ||| u.getD (v.length-1) 0)=u.getD v.length 0*4294967296+u.getD (v.length-1) 0:=or_add32 (hu.getD _)
 refine ⟨_,_,rfl,hor,h1.t1,h1,fun g r hg hr=>digit_break h1 hg h2 hr,fun g r hgl hg hc hq=>h3 g hgl (digit_done h1 hg hc) hq⟩
theorem getD_of_drop {c u:List Nat} {i:Nat} (h:c.drop i=u.drop i):c.getD i 0=u.getD i 0:=by
 have:=congrArg (fun l=>l.getD 0 0) h
 simpa [List.getD_eq_getElem?_getD] using this
theorem drop_set_next {c u:List Nat} {i:Nat} (h:c.drop i=u.drop i) (s:Nat):(c.set i s).drop (i+1)=u.drop (i+1):=by
 rw [List.drop_set_of_lt (by omega),← List.drop_drop,← List.drop_drop,h]
theorem sub32_rel {x y b:Nat} (hx:x<4294967296) (hy:y<4294967296) (hb:b<2):(x+2*4294967296-y-b)%4294967296+y+b=x+4294967296*(if x<y+b then 1 else 0):=by
 split <;> omega
theorem sub32_lt {x y b:Nat}:(if x<y+b then 1 else 0)<2:=by split <;> omega
theorem digit_back {F P k R:Nat} (h:F+P*k=R+P) (h1:F<P) (h2:R<P):F=R:=by
 rcases k with _ | _ | k
 ·omega
 ·omega
 ·have:P*2≤P*(k+1+1):=Nat.mul_le_mul_left _ (by omega)
  omega
theorem wrap_u32_add (n m:Nat):IntKind.wrap .u32 ((n:Int)+(m:Int))=(((n+m)%4294967296:Nat):Int):=by
 rw [← Int.natCast_add,wrap_u32_nat]
theorem wrap_u64_pred {n:Nat} (h:1≤n) (h':n<18446744073709551616):IntKind.wrap .u64 ((n:Int)-1)=((n-1:Nat):Int):=by
 rw [wrap_u64 (by omega) (by omega)];omega
theorem wrap_i64_m2 {n:Nat} (h:2≤n) (h':n<9223372036854775808):IntKind.wrap .i64 ((n:Int)-2)=((n-2:Nat):Int):=by
 rw [wrap_i64 (by omega) (by omega)];omega
theorem put_len {w c:List Nat} {off:Nat} (h:off+c.length≤w.length):(put w off c).length=w.length:=put_length h
theorem digit_left {U V g q C P b:Nat} (hP:C<P) (hb:b<2) (h:C+g*V=U+P*b) (hq:q=U / V) (hV:0<V) (hVP:V≤P) (hg:g=q∨g=q+1) :
  (b=0→g=U / V∧C=U%V)∧(b=1→g=U / V+1∧C+V=U%V+P):=by
 have h1:=Nat.div_add_mod U V
 have h2:=Nat.mod_lt U hV
 rw [← hq] at h1 ⊢
 rw [Nat.mul_comm] at h1
 rcases hg with rfl | rfl
 ·refine ⟨fun hb=>⟨rfl,by subst hb;omega⟩,fun hb=>?_⟩
  subst hb;exfalso;omega
 ·rw [Nat.add_mul,Nat.one_mul] at h
  refine ⟨fun hb=>?_,fun hb=>⟨rfl,by subst hb;omega⟩⟩
  subst hb;exfalso;omega
theorem msub_round {A U V P g v u c b s b' c' t:Nat} (h:A+g*V=U+P*(c+b)) (ht:t+4294967296*c'=g*v+c) (hs:s+t+b=u+4294967296*b'):(A+P*s)+g*(V+P*v)=(U+P*u)+P*4294967296*(c'+b'):=by
 have h2:P*(s+t+b)=P*(u+4294967296*b'):=by rw [hs]
 have h3:P*(t+4294967296*c')=P*(g*v+c):=by rw [ht]
 simp only [Nat.mul_add] at h h2 h3 ⊢
 have h4:g*(P*v)=P*(g*v):=by rw [← Nat.mul_assoc,Nat.mul_comm g,Nat.mul_assoc]
 rw [h4,Nat.mul_assoc P,Nat.mul_assoc P]
 omega
end Go.Proofs.YtjmkfbhecgkbmaaGreat.Vm
namespace Go.Proofs.YtjmkfbhecgkbmaaGreat.Vm
open Go Go.RowKit
abbrev sA:=And.intro (And.intro (And.intro (And.intro (And.intro (And.intro (And.intro @List.foldl_cons.{0,0} @List.foldl_nil.{0,0}) (And.intro @List.flatten_cons.{0} @List.flatten_nil.{0})) (And.intro (And.intro @List.drop_zero.{0} @List.drop_nil.{0}) (And.intro @List.singleton_append.{0} @Option.isSome_some.{0}))) (And.intro (And.intro (And.intro @Int.natCast_one @Int.cast_ofNat_Int) (And.intro @cond_true.{0} @cond_true.{1})) (And.intro (And.intro @cond_false.{0} @cond_false.{1}) (And.intro @decide_true @decide_false)))) (And.intro (And.intro (And.intro (And.intro @Int.lt_irrefl @Nat.lt_irrefl) (And.intro @Option.bind_some.{0,0} @Option.map_none.{0,0})) (And.intro (And.intro @List.getD_cons_zero.{0} @List.getD_cons_succ.{0}) (And.intro @List.getD_nil.{0} @List.map_cons.{0,0}))) (And.intro (And.intro (And.intro @List.map_nil.{0,0} @List.append_nil.{0}) (And.intro @List.nil_append.{0} @List.cons_append.{0})) (And.intro (And.intro @unW_neg @unW_not) (And.intro @unW_xor @List.take_succ_cons.{0}))))) (And.intro (And.intro (And.intro (And.intro (And.intro @List.drop_succ_cons.{0} @List.take_zero.{0}) (And.intro @List.length_cons.{0} @List.length_nil.{0})) (And.intro (And.intro @List.headD_cons.{0} @List.all_cons.{0}) (And.intro @List.all_nil.{0} @List.getElem?_cons_zero.{0}))) (And.intro (And.intro (And.intro @List.getElem?_cons_succ.{0} @List.getElem?_toArray.{0}) (And.intro @Option.map_some.{0,0} @ne_eq.{0})) (And.intro (And.intro @ne_eq.{1} @not_false_eq_true) (And.intro @true_and @and_true)))) (And.intro (And.intro (And.intro (And.intro @and_self @or_true) (And.intro @true_or @or_self)) (And.intro (And.intro @if_true.{0} @if_true.{1}) (And.intro @if_false.{0} @if_false.{1}))) (And.intro (And.intro (And.intro @not_true_eq_false @Int.natCast_zero) (And.intro @decide_eq_true_eq @decide_eq_false_iff_not)) (And.intro (And.intro @gt_iff_lt.{0} @ge_iff_le.{0}) (And.intro @Int.natCast_pos (And.intro @Bool.true_and @Bool.and_true))))))) (And.intro (And.intro (And.intro (And.intro (And.intro (And.intro @List.not_mem_nil.{0} @implies_true.{0}) (And.intro @implies_true.{1} @forall_const.{0})) (And.intro (And.intro @forall_const.{1} @u32s_length) (And.intro @List.length_set.{0} @u32s_all))) (And.intro (And.intro (And.intro @u32s_getD @u32s_getD_set) (And.intro @u32s_take @u32s_drop)) (And.intro (And.intro @u32s_set @u32s_rep) (And.intro @u32s_one @toNat_natCast)))) (And.intro (And.intro (And.intro (And.intro @nat_lt_int @nat_le_int) (And.intro @nat_nonneg @wrap_i64_add)) (And.intro (And.intro @wrap_i64_one @wrap_i64_sub) (And.intro @wrap_i64_pred @wrap_i64_m2))) (And.intro (And.intro (And.intro @wrap_u32_add @put_getD) (And.intro @put_set @put_len)) (And.intro (And.intro @wrap_i64_nat @Int.toNat_zero) (And.intro @wrap_u64_nat @wrap_u64_add))))) (And.intro (And.intro (And.intro (And.intro (And.intro @wrap_u64_mul @wrap_u64_sub) (And.intro @wrap_u32_nat @wrap_u8_nat)) (And.intro (And.intro @fdiv_pow @tdiv_nat) (And.intro @tmod_nat @shl_u64))) (And.intro (And.intro (And.intro @shl_u32 @wrap_i64_32) (And.intro @min_u64 @min_u32)) (And.intro (And.intro @band_u32 @bor_u32) (And.intro @bxor_u32 @bor_u64)))) (And.intro (And.intro (And.intro (And.intro @bnot_u32 @wrap_u32_sub) (And.intro @List.forall_mem_cons.{0} @range0)) (And.intro (And.intro @range1 @range2) (And.intro @range3 @range4))) (And.intro (And.intro (And.intro @Nat.zero_add @Nat.add_zero) (And.intro @Bool.not_true @Bool.not_false)) (And.intro (And.intro @Bool.and_self @Bool.false_eq_true) (And.intro @forall_eq.{0} (And.intro @forall_eq.{1} @false_implies)))))))
abbrev sB:=And.intro (And.intro (And.intro (And.intro (And.intro (And.intro (And.intro @retK_ap (And.intro @retK2_ap @valK_ap)) (And.intro (And.intro @wrK_ap @sethK_ap) (And.intro @atK_ap @restV_ap))) (And.intro (And.intro @restO_ap (And.intro @opF_move @opW_move)) (And.intro (And.intro @opF_assign @opW_assign) (And.intro @opF_pick @opW_pick)))) (And.intro (And.intro (And.intro @opF_build (And.intro @opW_build @opF_buildSlice)) (And.intro (And.intro @opW_buildSlice @opF_load) (And.intro @opW_load @opF_store))) (And.intro (And.intro @opW_store (And.intro @opF_nilCheck @opW_nilCheck)) (And.intro (And.intro @opF_binOp @opW_binOp) (And.intro @opF_unOp @opW_unOp))))) (And.intro (And.intro (And.intro (And.intro @opF_convert (And.intro @opW_convert @opF_slice)) (And.intro (And.intro @opW_slice @opF_fieldAddr) (And.intro @opW_fieldAddr @opF_field))) (And.intro (And.intro @opW_field (And.intro @opF_indexAddr @opW_indexAddr)) (And.intro (And.intro @opF_index @opW_index) (And.intro @opF_extract @opW_extract)))) (And.intro (And.intro (And.intro @opF_makeFunc (And.intro @opW_makeFunc @opF_len)) (And.intro (And.intro @opW_len @opW_append) (And.intro @opW_copy @opW_makeSlice))) (And.intro (And.intro @opF_alloc (And.intro @opF_box @opW_alloc)) (And.intro (And.intro @opW_box @opF_call) (And.intro @opW_call @callF_fn)))))) (And.intro (And.intro (And.intro (And.intro (And.intro @callW_fn (And.intro @effW_free @effW_guard)) (And.intro (And.intro @effH_tt @effH_ff) (And.intro @effH_tf @effH_ft))) (And.intro (And.intro @effH_und (And.intro @opsH_tt @opsH_ff)) (And.intro (And.intro @opsH_tf @opsH_ft) (And.intro @opsH_und @opsW_nil)))) (And.intro (And.intro (And.intro @opsW_free (And.intro @opsW_guard @regV_nil)) (And.intro (And.intro @regV_cons @binW_add) (And.intro @binW_sub @binW_mul))) (And.intro (And.intro @binW_and (And.intro @binW_or @binW_xor)) (And.intro (And.intro @binW_andNot @binW_eql) (And.intro @binW_neq @binW_lss))))) (And.intro (And.intro (And.intro (And.intro @binW_leq (And.intro @binW_gtr @binW_geq)) (And.intro (And.intro @binW_quo @binW_rem) (And.intro @binW_shl @binW_shr))) (And.intro (And.intro @binW_beql (And.intro @binW_bneq @binW_pneql)) (And.intro (And.intro @binW_pnneq @binW_nneql) (And.intro @binW_nnneq @binW_seql)))) (And.intro (And.intro (And.intro @binW_sneq (And.intro @pickW_bool @pickW_yes)) (And.intro (And.intro @pickW_no @extractW_tup) (And.intro @nilCheckW_ptr @nilCheckW_ia))) (And.intro (And.intro (And.intro @loadW_ia @kOk_arr) (And.intro @loadW_ptr @loadO_arr)) (And.intro (And.intro @storeF_ptr @storeW_ptr) (And.intro @storeO_arr @fieldAddrW_ia))))))) (And.intro (And.intro (And.intro (And.intro (And.intro (And.intro @fieldAddrW_ptr (And.intro @fieldW_agg @indexAddrW_sl)) (And.intro (And.intro @indexAddrW_sref @indexAddrW_aptr) (And.intro @indexAddrW_aia @indexW_str))) (And.intro (And.intro @lenW_str (And.intro @lenW_sl @lenW_sref)) (And.intro (And.intro @lenW_nils @convW_int) (And.intro @convW_str @buildW_struct)))) (And.intro (And.intro (And.intro @litD_slice (And.intro @makeW_slice @ev_tmp)) (And.intro (And.intro @ev_const @ev_global) (And.intro @ev_func @evo_none))) (And.intro (And.intro @evo_some (And.intro @cst_int @cst_bool)) (And.intro (And.intro @cst_str @cst_nils) (And.intro @cst_nilp @cst_nilif))))) (And.intro (And.intro (And.intro (And.intro @cst_nilfn (And.intro @cst_agg @buildW_arr)) (And.intro (And.intro @indexW_arr @thenO_ap) (And.intro @opW_clear @clearW_sref))) (And.intro (And.intro @clrO_arr (And.intro @opW_lookup @opF_lookup)) (And.intro (And.intro @lookW_map @rowsM_mp) (And.intro @rowsM_md @rowsM_nilmp)))) (And.intro (And.intro (And.intro @rowsMO_map (And.intro @lookO_some @lookR_yes)) (And.intro (And.intro @lookR_no @opW_mapUpdate) (And.intro @opW_insert @putW_mp))) (And.intro (And.intro (And.intro @putO_map @putR_yes) (And.intro @putR_no @opW_makeMap)) (And.intro (And.intro @makeMapW_none @makeMapW_some) (And.intro @opW_range @rangeW_map)))))) (And.intro (And.intro (And.intro (And.intro (And.intro @mapM_mp (And.intro @mapM_md @mapMO_map)) (And.intro (And.intro @rangeO_some @opW_next) (And.intro @nextW_it @nextO_iter))) (And.intro (And.intro @nextR_some (And.intro @opW_entry @entryW_it)) (And.intro (And.intro @entO_iter @entR_some) (And.intro @opW_delete @delW_mp)))) (And.intro (And.intro (And.intro @delO_map (And.intro @delR_yes @delR_no)) (And.intro (And.intro @isKeyA_int @isKeyA_str) (And.intro @cst_nilmp @kill_any))) (And.intro (And.intro @kill_und (And.intro @kill_int @kill_bool)) (And.intro (And.intro @kill_str @kill_nils) (And.intro @kill_sl @kill_ia))))) (And.intro (And.intro (And.intro (And.intro @kill_nilp (And.intro @kill_nilif @kill_nilfn)) (And.intro (And.intro @kill_nilmp @kill_gl) (And.intro @kill_sref @kill_ptr))) (And.intro (And.intro @kill_agg (And.intro @kill_tup @kill_fn)) (And.intro (And.intro @kill_ifc @kills_nil) (And.intro @kills_cons @kill_dead)))) (And.intro (And.intro (And.intro @kill_arr (And.intro @kill_arrf @appendW_eq)) (And.intro (And.intro @appR_sref @appR_nils) (And.intro @appO_arr @rowsOf_sl))) (And.intro (And.intro (And.intro @rowsOf_nils @rowsOf_sref) (And.intro @rowsO_arr @kill_mp)) (And.intro (And.intro @kill_it @kill_md) (And.intro @kill_map @kill_iter)))))))
abbrev cB:=And.intro @decide_eq_true_eq (And.intro @decide_eq_false_iff_not (And.intro @bne_iff_ne.{0} (And.intro @beq_iff_eq.{0} (And.intro @bne_eq_false_iff_eq.{0} (And.intro @beq_eq_false_iff_ne.{0} (And.intro @Nat.not_lt (And.intro @Nat.not_le (And.intro @Int.not_lt (And.intro @Int.not_le (And.intro @Bool.not_eq_true' @Bool.not_eq_false'))))))))))
structure Wr (p:Prop):Prop where
 out:p
theorem aI {A B:Prop} (b:B) (a:A:=by first | omega | (show AV.pures _=true;rfl) | exact ⟨rfl,rfl⟩ | exact ⟨rfl,rfl,rfl⟩ | exact allLen_lit rfl | exact allOne_lit rfl | exact Or.inl rfl | exact Nat.le_refl _ | (simp only [sepP];decide)):A∧B:=⟨a,b⟩
theorem qG {G G':Prop} (h:G') (e:G=G':=by conv=>lhs;simp (disch:=omega) only [thenW,blockW,cNat,cN,sgn,retR,newQ,newK,mutQ,mutQ2,AV.okR,resW,resV,asOne_one,asOne_two,asOne_three,view_sref,viewRef,List.getD_cons_zero,List.drop_zero,u32s_take,u32s_drop,view_sl,view_int,view_bool,view_str,view_nils,view_agg,view_tup,view_nilif,views_nil,views_cons,List.getD_cons_succ]):G:=e.mpr h
theorem sNa {G G':Prop} (h:G') (e:G=G':=by conv=>lhs;simp (disch:=omega) only [rowsOf,cNat,cN,St.ret,St.seth,Eff.app,Eff.wi,sepL,guardOf,St.known,objOf,List.set,sliceW,litW,copyW,lenOf,bnd,mxOk,ofCells,TI.isAgg,cellsOf,storable,AV.one,dead,laid,overlay,reduceCtorEq,Int.reduceLE,Int.reduceLT,Int.reduceSub,Int.reduceAdd,Nat.reduceMul,Int.reduceToNat,Nat.reducePow,Int.reduceNeg,Nat.reduceAdd,Nat.reduceLT,Nat.reduceLeDiff,sA,sB,sT]):G:=e.mpr h
theorem sNaX {G G' P:Prop} (p:P) (h:G') (e:P→G=G':=by intro p;conv=>lhs;simp (disch:=omega) only [rowsOf,cNat,cN,St.ret,St.seth,Eff.app,Eff.wi,sepL,guardOf,St.known,objOf,List.set,sliceW,litW,copyW,lenOf,bnd,mxOk,ofCells,TI.isAgg,cellsOf,storable,AV.one,dead,laid,overlay,reduceCtorEq,Int.reduceLE,Int.reduceLT,Int.reduceSub,Int.reduceAdd,Nat.reduceMul,Int.reduceToNat,Nat.reducePow,Int.reduceNeg,Nat.reduceAdd,Nat.reduceLT,Nat.reduceLeDiff,sA,sB,sT,p]):G:=(e p).mpr h
theorem sNaV {G G':Prop} (h:G') (e:G=G':=by conv=>lhs;simp (disch:=omega) only [rowsOf,cNat,cN,St.ret,St.seth,Eff.app,Eff.wi,sepL,guardOf,St.known,objOf,List.set,sliceW,litW,copyW,lenOf,bnd,mxOk,ofCells,TI.isAgg,cellsOf,storable,AV.one,dead,laid,overlay,reduceCtorEq,Int.reduceLE,Int.reduceLT,Int.reduceSub,Int.reduceAdd,Nat.reduceMul,Int.reduceToNat,Nat.reducePow,Int.reduceNeg,Nat.reduceAdd,Nat.reduceLT,Nat.reduceLeDiff,sA,sB,sT,view_sref,viewRef,view_agg,views_cons,views_nil,view_bool,view_int,view_sl,view_nils,view_str,view_tup,view_nilif]):G:=e.mpr h
theorem aNa {G G':Prop} (h:G') (f:Wr G'→G:=by intro h;(repeat (first|(refine W_seqV fun K hK=>?_;(try (refine sNa ?_;try exact True.intro));(repeat refine aI ?_);refine hK _ ?_;clear hK K)|(refine W_seqR fun K hK=>?_;(try (refine sNa ?_;try exact True.intro));(repeat refine aI ?_);refine hK _ ?_;clear hK K)|(refine W_seqD mixed [] (by kernel_rfl) fun K hK=>?_;(try (refine sNa ?_;try exact True.intro));(repeat refine aI ?_);refine hK _ ?_;clear hK K)));exact h.out):G:=f ⟨h⟩
set_option maxHeartbeats 1000000 in
theorem trim_ok (l:List Nat) (hl:l.length<9223372036854775807):Pure Tryz.prog 227 [cNat l] (·=cNat (trim l)):=by
 (refine pureW Tryz.func227 rfl (rs:=[Go.ResultVar.tmp 2]) rfl (n:=21) rfl ?_;simp only [List.length_cons,List.length_nil,List.replicate,List.cons_append,List.nil_append])
 unfold cNat
 ((refine W_seqR ?_);intro K hK;(refine sNa ?_))
 (refine hK _ ?_;clear hK K)
 ((refine W_seqR ?_);intro K hK;(refine sNa ?_))
 (refine hK _ ?_;clear hK K)
 refine W_seq (W_block (W_loop (fun n:{n:Nat // n≤l.length∧cutLen l n=cutLen l l.length}=>⟨[.sl (u32s l),.any,.any,.int .i64 n.1,.any,.any,.any,.any,.any,.any,.any,.any,.any,.any,.any,.any,.any,.any,.any,.any,.any],_⟩) (fun n=>n.1) ⟨l.length,Nat.le_refl _,rfl⟩ (Le_of ?_ rfl) fun n=>?_))
 ·simp [leE]
 obtain ⟨n,hn,hc⟩:=n
 refine W_seq ?_
 dsimp only
 rcases Nat.eq_zero_or_pos n with rfl | hpos
 ·((refine W_seqR ?_);intro K hK;(refine sNa ?_))
  (refine hK _ ?_;clear hK K)
  refine W_cond rfl (fun h=>?_) (fun h=>?_)
  ·simp at h
  refine W_exit ?_
  simp only [thenW,blockW,if_true]
  ((refine W_seqR ?_);intro K hK;(refine sNa ?_))
  (refine hK _ ?_;clear hK K)
  refine W_ret ?_
  (refine qG ?_;try exact True.intro)
  simp [trim,← hc,cutLen,u32s]
 ·((refine W_seqR ?_);intro K hK;(refine sNaX hpos ?_))
  refine ⟨by omega,?_⟩
  (refine hK _ ?_;clear hK K)
  refine W_cond rfl (fun h=>?_) (fun h=>?_)
  ·refine W_skip (W_block (W_regR fun K hK=>?_))
   (refine sNa ?_;try exact True.intro)
   refine hK _ ⟨⟨n-1,by omega,?_⟩,Le_of ?_ rfl,?_⟩
   ·rw [← hc]
    obtain ⟨m,rfl⟩:∃ m,n=m+1:=⟨n-1,by omega⟩
    simp at h
    simp only [cutLen,Nat.add_sub_cancel,List.getD_eq_getElem?_getD,h,if_true]
   ·simp [leE]
   ·simp;omega
  refine W_exit ?_
  simp only [thenW,blockW,if_true]
  ((refine W_seqR ?_);intro K hK;(refine sNa ?_))
  refine ⟨hn,?_⟩
  (refine hK _ ?_;clear hK K)
  refine W_ret ?_
  (refine qG ?_;try exact True.intro)
  obtain ⟨m,rfl⟩:∃ m,n=m+1:=⟨n-1,by omega⟩
  simp at h
  simp only [trim,← hc,cutLen,List.getD_eq_getElem?_getD,h,if_false]
set_option maxHeartbeats 1000000 in
theorem own_ok (l:List Nat) (hl:l.length<1099511627776):Pure Tryz.prog 226 [cNat l] (·=cNat (trim l)):=by
 have htl:=trim_length l
 (refine pureW Tryz.func226 rfl (rs:=[Go.ResultVar.tmp 2]) rfl (n:=16) rfl ?_;simp only [List.length_cons,List.length_nil,List.replicate,List.cons_append,List.nil_append])
 unfold cNat
 ((refine W_seqR ?_);intro K hK;(refine sNa ?_))
 (refine hK _ ?_;clear hK K)
 ((refine W_seqR ?_);intro K hK;(refine sNa ?_))
 (refine ⟨by kernel_rfl,call_pure rfl (trim_ok l (by omega)) fun r hr=>?_⟩;subst hr;(refine sNa ?_;try exact True.intro))
 (refine hK _ ?_;clear hK K)
 refine W_seq ?_
 ((refine W_seqR ?_);intro K hK;(refine sNa ?_))
 (refine hK _ ?_;clear hK K)
 refine W_cond rfl (fun h=>?_) (fun h=>?_)
 ·((refine W_seqR ?_);intro K hK;(refine sNa ?_))
  (refine hK _ ?_;clear hK K)
  refine W_ret ?_
  (refine qG ?_;try exact True.intro)
  simp at h
  rw [h]
  rfl
 ·refine W_skip ?_
  ((refine W_seqR ?_);intro K hK;(refine sNa ?_))
  refine ⟨by omega,by omega,?_⟩
  (refine hK _ ?_;clear hK K)
  ((refine W_seqR ?_);intro K hK;(refine sNa ?_))
  refine ⟨by simp,?_⟩
  (refine hK _ ?_;clear hK K)
  ((refine W_seqR ?_);intro K hK;(refine sNa ?_))
  (refine hK _ ?_;clear hK K)
  refine W_ret ?_
  (refine qG ?_;try exact True.intro)
  simp [u32s,List.take_of_length_le]
theorem own_ok' (l:List Nat) (h:Limbs l) (hl:l.length<1099511627776):Pure Tryz.prog 226 [cNat l] (·=cN (val l)):=by
 have:=own_ok l hl
 rwa [trim_eq h] at this
theorem trim_ok' (l:List Nat) (h:Limbs l) (hl:l.length<1099511627776):Pure Tryz.prog 227 [cNat l] (·=cN (val l)):=by
 have:=trim_ok l (by omega)
 rwa [trim_eq h] at this
set_option maxHeartbeats 1000000 in
theorem norm_ok (l:List Nat) (h:Limbs l) (hl:l.length<1099511627776):Pure Tryz.prog 225 [cNat l] (·=cN (val l)):=by
 (refine pureW Tryz.func225 rfl (rs:=[Go.ResultVar.tmp 2]) rfl (n:=5) rfl ?_;simp only [List.length_cons,List.length_nil,List.replicate,List.cons_append,List.nil_append])
 (refine aNa ?_)
 ((refine W_seqR ?_);intro K hK;(refine sNa ?_))
 (refine ⟨by kernel_rfl,call_pure rfl (own_ok' l h hl) fun r hr=>?_⟩;subst hr;(refine sNa ?_;try exact True.intro))
 (refine hK _ ?_;clear hK K)
 refine W_ret ?_
 (refine qG ?_;try exact True.intro)
set_option maxHeartbeats 1000000 in
theorem add32_ok (x y c:Nat) (hx:x<4294967296) (hy:y<4294967296) (hc:c<4294967296):Pure Tryz.prog 252 [.int .u32 x,.int .u32 y,.int .u32 c] (· = .tup [.int .u32 ((x+y+c)%4294967296:Nat),.int .u32 ((x+y+c) / 4294967296:Nat)]):=by
 (refine pureW Tryz.func252 rfl (rs:=[Go.ResultVar.tmp 6,Go.ResultVar.tmp 7]) rfl (n:=22) rfl ?_;simp only [List.length_cons,List.length_nil,List.replicate,List.cons_append,List.nil_append])
 (refine aNa ?_)
 refine W_ret ?_
 (refine qG ?_;try exact True.intro)
 simp only [AV.tup.injEq,List.cons.injEq,AV.int.injEq,true_and,and_true]
 omega
set_option maxHeartbeats 1000000 in
theorem of_ok (n:Nat) (h:n<18446744073709551616):Pure Tryz.prog 183 [.int .u64 n] (·=cN n):=by
 have hv:val [n%4294967296,n / 4294967296%4294967296]=n:=by simp only [val];omega
 have hl:Limbs [n%4294967296,n / 4294967296%4294967296]:=by
  intro x hx
  simp only [List.mem_cons,List.not_mem_nil,or_false] at hx
  omega
 have ho:=own_ok' _ hl (by simp)
 rw [hv] at ho
 (refine pureW Tryz.func183 rfl (rs:=[Go.ResultVar.tmp 2]) rfl (n:=10) rfl ?_;simp only [List.length_cons,List.length_nil,List.replicate,List.cons_append,List.nil_append])
 (refine aNa ?_)
 ((refine W_seqV ?_);intro K hK;(refine sNa ?_))
 refine ⟨⟨rfl,rfl⟩,?_⟩
 (refine ⟨by kernel_rfl,_,.pure rfl (ho),?_⟩;(try (refine sNa ?_)))
 (refine hK _ ?_;clear hK K)
 refine W_ret ?_
 (refine qG ?_;try exact True.intro)
set_option maxHeartbeats 1000000 in
theorem sub32_ok (x y c:Nat) (hx:x<4294967296) (hy:y<4294967296) (hc:c<2):Pure Tryz.prog 253 [.int .u32 x,.int .u32 y,.int .u32 c] (· = .tup [.int .u32 ((x+2*4294967296-y-c)%4294967296:Nat),.int .u32 ((if x<y+c then 1 else 0:Nat):Int)]):=by
 have hxy:(x ^^^ y)<4294967296:=Nat.xor_lt_two_pow (n:=32) hx hy
 have h1:((4294967295-x) &&& y)<4294967296:=Nat.lt_of_le_of_lt Nat.and_le_right hy
 have h2:∀ d,((4294967295-(x ^^^ y)) &&& d)<4294967296:=fun d=>Nat.lt_of_le_of_lt Nat.and_le_left (by omega)
 have h3:=h2 (((x+4294967296-y)%4294967296+4294967296-c)%4294967296)
 have hb:=borrow hx hy hc (d:=((x+4294967296-y)%4294967296+4294967296-c)%4294967296) (by omega)
 (refine pureW Tryz.func253 rfl (rs:=[Go.ResultVar.tmp 6,Go.ResultVar.tmp 7]) rfl (n:=25) rfl ?_;simp only [List.length_cons,List.length_nil,List.replicate,List.cons_append,List.nil_append])
 (refine aNa ?_)
 refine W_ret ?_
 (refine qG ?_;try exact True.intro)
 rw [hb]
 simp only [AV.tup.injEq,List.cons.injEq,AV.int.injEq,true_and,and_true]
 omega
set_option maxHeartbeats 1000000 in
theorem ncmp_ok (l m:List Nat) (hl:Limbs l) (hm:Limbs m) (h1:l.length<1099511627776) (h2:m.length<1099511627776):Pure Tryz.prog 205 [cNat l,cNat m] (· = .int .i64 (sgn (val l) (val m))):=by
 have h3:=limbs_val_length hl
 have h4:=limbs_val_length hm
 (refine pureW Tryz.func205 rfl (rs:=[Go.ResultVar.tmp 4]) rfl (n:=45) rfl ?_;simp only [List.length_cons,List.length_nil,List.replicate,List.cons_append,List.nil_append])
 (refine aNa ?_)
 ((refine W_seqV ?_);intro K hK;(refine sNa ?_))
 (refine ⟨by kernel_rfl,_,.pure rfl (trim_ok' l hl h1),?_⟩;(try (refine sNa ?_)))
 (refine ⟨by kernel_rfl,_,.pure rfl (trim_ok' m hm h2),?_⟩;(try (refine sNa ?_)))
 (refine hK _ ?_;clear hK K)
 (repeat' (first | refine W_block ?_ | (refine W_seqV fun K hK=>?_;(try (refine sNa ?_));refine hK _ ?_;clear hK K) | refine W_skip ?_ | (refine W_ret ?_;(refine qG ?_)) | refine W_cond rfl (fun h=>?_) (fun h=>?_) | refine W_seq ?_))
 ·have hlt:val l<val m:=by
   refine Nat.lt_of_not_le fun hle=>?_
   have:=limbs_mono hle
   simp at h
   omega
  simp [hlt]
 ·have hlt:val m<val l:=by
   refine Nat.lt_of_not_le fun hle=>?_
   have:=limbs_mono hle
   simp at h
   rename_i h0
   simp at h0
   omega
  simp [hlt,Nat.lt_asymm hlt]
 ·simp at h
  refine W_loop (fun i:{i:Nat // i≤(limbs (val l)).length∧(limbs (val l)).drop i=(limbs (val m)).drop i}=>⟨[.sl (u32s (limbs (val l))),.sl (u32s (limbs (val m))),.any,.any,.any,.int .i64 ((i.1:Int)-1),.any,.any,.any,.any,.any,.any,.any,.any,.any,.any,.any,.any,.any,.any,.any,.any,.any,.any,.any,.any,.any,.any,.any,.any,.any,.any,.any,.any,.any,.any,.any,.any,.any,.any,.any,.any,.any,.any,.any],_⟩) (fun i=>i.1) ⟨(limbs (val l)).length,Nat.le_refl _,by rw [List.drop_eq_nil_of_le (Nat.le_refl _),List.drop_eq_nil_of_le (by omega)]⟩ (Le_of ?_ rfl) fun i=>?_
  ·have:=wrap_i64 (x:=((limbs (val l)).length:Int)-1) (by omega) (by omega)
   simp [leE,this]
  obtain ⟨i,hi,hd⟩:=i
  dsimp only
  rcases i with _ | i
  ·refine W_seq ?_
   ((refine W_seqV ?_);intro K hK;(refine sNa ?_))
   (refine hK _ ?_;clear hK K)
   (repeat' (first | (exfalso;simp at h;done) | (refine W_seqV fun K hK=>?_;(try (refine sNa ?_));refine hK _ ?_;clear hK K) | (refine W_ret ?_;(refine qG ?_)) | (refine W_exit ?_;simp only [thenW,blockW,if_true,reduceCtorEq,if_false,Nat.reduceEqDiff]) | refine W_cond rfl (fun h=>?_) (fun h=>?_)))
   ·have he:val l=val m:=by
     rw [← val_limbs (val l),← val_limbs (val m),show limbs (val l)=limbs (val m) from hd]
    simp [he]
  ·have hj:((i+1:Nat):Int)-1=i:=by omega
   rw [hj]
   have hi2:i<(limbs (val m)).length:=by omega
   have top:=fun h=>val_lt_of_top (i:=i) (limbs_limbs (val l)) (by omega) hi2 hd h
   have top':=fun h=>val_lt_of_top (i:=i) (limbs_limbs (val m)) hi2 (by omega) hd.symm h
   rw [val_limbs,val_limbs] at top top'
   (repeat' (first|(exfalso;simp at h;done)|refine W_block ?_|(refine W_seqV fun K hK=>?_;(try (refine sNa ?_));refine hK _ ?_;clear hK K)|(refine W_seqD mixed [] (by kernel_rfl) fun K hK=>?_;(try (refine sNa ?_));(repeat refine aI ?_);refine hK _ ?_;clear hK K)|(refine W_regV fun K hK=>?_;(try (refine sNa ?_));refine hK _ ?_;clear hK K)|refine W_skip ?_|(refine W_ret ?_;(refine qG ?_))|refine W_cond rfl (fun h=>?_) (fun h=>?_)|refine W_seq ?_))
   ·simp only [decide_eq_true_eq] at h
    simp [top h]
   ·rename_i h0
    simp only [decide_eq_false_iff_not] at h
    simp only [bne_iff_ne,ne_eq] at h0
    have:=top' (by omega)
    simp [this,Nat.lt_asymm this]
   ·refine ⟨⟨i,by omega,?_⟩,Le_of ?_ rfl,?_⟩
    ·have h5:(limbs (val l)).getD i 0=(limbs (val m)).getD i 0:=by simp only [bne_eq_false_iff_eq] at h;omega
     rw [List.drop_eq_getElem_cons (by omega),List.drop_eq_getElem_cons (i:=i) hi2,hd]
     congr 1
     simpa [List.getD_eq_getElem?_getD,show i<(limbs (val l)).length by omega,hi2] using h5
    ·simp only [leE,or_true,true_or,and_true,true_and]
     simp
     exact wrap_i64 (by omega) (by omega)
    ·simp
end Go.Proofs.YtjmkfbhecgkbmaaGreat.Vm
namespace Go.Proofs.YtjmkfbhecgkbmaaGreat.Vm
open Go Go.RowKit
set_option maxHeartbeats 1000000 in
theorem nadd_ok (l m:List Nat) (hl:Limbs l) (hm:Limbs m) (h1:l.length<549755813888) (h2:m.length<549755813888):Pure Tryz.prog 232 [cNat l,cNat m] (·=cN (val l+val m)):=by
 (refine pureW Tryz.func232 rfl (rs:=[Go.ResultVar.tmp 4]) rfl (n:=54) rfl ?_;simp only [List.length_cons,List.length_nil,List.replicate,List.cons_append,List.nil_append])
 (refine aNa ?_)
 refine W_join (fun s'=>∃ l' m',Limbs l'∧Limbs m'∧l'.length<549755813888∧m'.length≤l'.length∧val l'+val m'=val l+val m∧Le [] s' ⟨[.sl (u32s l'),.sl (u32s m'),.any,.any,.any,.any,.any,.any,.any,.any,.any,.any,.any,.any,.any,.any,.any,.any,.any,.any,.any,.any,.any,.any,.any,.any,.any,.any,.any,.any,.any,.any,.any,.any,.any,.any,.any,.any,.any,.any,.any,.any,.any,.any,.any,.any,.any,.any,.any,.any,.any,.any,.any,.any],[.dead,.dead,.dead,.dead,.dead,.dead,.dead,.dead,.dead,.dead,.dead,.dead,.dead,.dead,.dead,.dead,.dead,.dead,.dead,.dead,.dead,.dead,.dead,.dead,.dead,.dead,.dead,.dead,.dead,.dead,.dead,.dead,.dead,.dead,.dead,.dead,.dead,.dead,.dead,.dead,.dead,.dead,.dead,.dead,.dead,.dead,.dead,.dead,.dead,.dead,.dead,.dead,.dead,.dead]⟩) ?_ ?_
 ·(repeat' (first | (refine W_seqV fun K hK=>?_;(try (refine sNa ?_));refine hK _ ?_;clear hK K) | (refine W_regV fun K hK=>?_;(try (refine sNa ?_));refine hK _ ?_;clear hK K) | refine W_skip ?_ | (refine W_cond rfl (fun h=>?_) (fun h=>?_) <;> (try simp only [cond_true,cond_false,ne_eq,cB] at h))))
  ·exact ⟨m,l,hm,hl,h2,by omega,by omega,Le_of (by simp [leE]) rfl⟩
  ·exact ⟨l,m,hl,hm,h1,by omega,rfl,Le_of (by simp [leE]) rfl⟩
 clear hl hm h1 h2
 rintro s' ⟨l',m',hl,hm,h1,h2,hv,hle⟩
 rw [← hv]
 clear hv
 refine W.le ?_ hle
 clear hle l m
 (repeat' (first | refine W_block ?_ | (refine W_seqV fun K hK=>?_;(try (refine sNa ?_));refine hK _ ?_;clear hK K) | (refine W_seqR fun K hK=>?_;(try (refine sNa ?_));(repeat refine aI ?_);refine hK _ ?_;clear hK K) | refine W_seq ?_))
 refine W_loop (fun t:{t:Nat × List Nat × Nat // t.1≤l'.length∧t.2.1.length=l'.length+1∧Limbs t.2.1∧t.2.2≤1∧val (t.2.1.take t.1)+4294967296^t.1*t.2.2=val (l'.take t.1)+val (m'.take t.1)} =>
   ⟨[.sl (u32s l'),.sl (u32s m'),.any,.any,.any,.sref 19 0 (l'.length+1),.int .u32 t.1.2.2,.any,.any,.any,.any,.any,.any,.any,.any,.any,.any,.any,.any,.any,.any,.int .i64 l'.length,.int .i64 t.1.1,.any,.any,.any,.any,.any,.any,.any,.any,.any,.any,.any,.any,.any,.any,.any,.any,.any,.any,.any,.any,.any,.any,.any,.any,.any,.any,.any,.any,.any,.any,.any],[.dead,.dead,.dead,.dead,.dead,.dead,.dead,.dead,.dead,.dead,.dead,.dead,.dead,.dead,.dead,.dead,.dead,.dead,.dead,.arr 179 1 true (u32s t.1.2.1),.dead,.dead,.dead,.dead,.dead,.dead,.dead,.dead,.dead,.dead,.dead,.dead,.dead,.dead,.dead,.dead,.dead,.dead,.dead,.dead,.dead,.dead,.dead,.dead,.dead,.dead,.dead,.dead,.dead,.dead,.dead,.dead,.dead,.dead]⟩) (fun t=>l'.length-t.1.1)
  ⟨(0,List.replicate (l'.length+1) 0,0),by simp,by simp,Limbs.rep _,by simp,by simp [val]⟩ (Le_of (by simp [leE]) rfl) fun t=>?_
 obtain ⟨⟨i,c,k⟩,h3,h4,h5,h6,h7⟩:=t
 dsimp only at h3 h4 h5 h6 h7 ⊢
 have hi:i<c.length:=by omega
 (repeat' (first|refine W_block ?_|(refine W_seqV fun K hK=>?_;(try (refine sNa ?_));(repeat refine aI ?_);refine hK _ ?_;clear hK K)|(refine W_regV fun K hK=>?_;(try (refine sNa ?_));(repeat refine aI ?_);refine hK _ ?_;clear hK K)|refine W_skip ?_|(refine W_exit ?_;simp only [thenW,blockW,if_true,reduceCtorEq,if_false,Nat.reduceEqDiff])|(refine W_cond rfl (fun h=>?_) (fun h=>?_) <;> (try simp only [cond_true,cond_false,ne_eq,cB] at h))|refine W_seq ?_))
 ·(refine W_regV fun K hK=>?_;(refine sNa ?_;try exact True.intro))
  ((repeat refine aI ?_);refine ⟨by kernel_rfl,_,.pure rfl (add32_ok _ _ k (hl.getD i) (hm.getD i) (by omega)),?_⟩;(try (refine sNa ?_));(repeat refine aI ?_))
  (refine hK _ ?_;clear hK K)
  (repeat' (refine W_regV fun K hK=>?_;(try (refine sNa ?_));refine hK _ ?_;clear hK K))
  have hx:=hl.getD i
  have hy:=hm.getD i
  refine ⟨⟨(i+1,c.set i ((l'.getD i 0+m'.getD i 0+k)%4294967296),(l'.getD i 0+m'.getD i 0+k) / 4294967296),by dsimp only;omega,by simpa using h4,h5.set i (by omega),by dsimp only;omega,?_⟩,Le_of (by simp only [leE,or_true,true_or,and_true,true_and]) rfl,by dsimp only;omega⟩
  dsimp only
  rw [val_take_set hi,val_take_succ,val_take_succ,Nat.pow_succ]
  exact add_round h7 (by omega)
 ·(refine W_regV fun K hK=>?_;(refine sNa ?_;try exact True.intro))
  have h0:m'.getD i 0=0:=by simp [List.getD_eq_getElem?_getD,h]
  ((repeat refine aI ?_);refine ⟨by kernel_rfl,_,.pure rfl (add32_ok _ 0 k (hl.getD i) (by omega) (by omega)),?_⟩;(try (refine sNa ?_));(repeat refine aI ?_))
  (refine hK _ ?_;clear hK K)
  (repeat' (refine W_regV fun K hK=>?_;(try (refine sNa ?_));refine hK _ ?_;clear hK K))
  have hx:=hl.getD i
  refine ⟨⟨(i+1,c.set i ((l'.getD i 0+k)%4294967296),(l'.getD i 0+k) / 4294967296),by dsimp only;omega,by simpa using h4,h5.set i (by omega),by dsimp only;omega,?_⟩,Le_of (by simp only [leE,or_true,true_or,and_true,true_and]) rfl,by dsimp only;omega⟩
  dsimp only
  rw [val_take_set hi,val_take_succ,val_take_succ,Nat.pow_succ,h0]
  exact add_round h7 (by omega)
 ·have h0:i=l'.length:=by omega
  subst h0
  rw [List.take_length,List.take_of_length_le h2] at h7
  have hv:=val_take_set hi k
  rw [List.take_of_length_le (by simp;omega)] at hv
  (refine W.le ?_ (Le_freeze 19 (rows:=u32s (c.set l'.length k)) rfl (by simp) (.inl rfl));simp only [St.freeze,List.map_cons,List.map_nil,List.set,if_true,if_false,Nat.reduceEqDiff,reduceCtorEq,List.drop_zero,u32s_take,u32s_drop,froz_any,froz_und,froz_int,froz_bool,froz_str,froz_nils,froz_sl,froz_ia,froz_nilp,froz_nilif,froz_nilfn,froz_nilmp,froz_gl,froz_sref,froz_ptr,froz_agg,froz_tup,froz_fn,froz_ifc,frozs_nil,frozs_cons,froz_dead,froz_arr,froz_mp,froz_it,froz_md,froz_map,froz_iter])
  rw [List.take_of_length_le (by simp;omega)]
  (refine W_regV fun K hK=>?_;(refine sNa ?_;try exact True.intro))
  (refine ⟨by kernel_rfl,_,.pure rfl (own_ok' _ (h5.set l'.length (by omega)) (by simp;omega)),?_⟩;(try (refine sNa ?_)))
  (refine hK _ ?_;clear hK K)
  refine W_ret ?_
  (refine qG ?_;try exact True.intro)
  rw [hv,h7]
theorem nsub_ok (l m:List Nat) (hl:Limbs l) (hm:Limbs m) (h1:l.length<549755813888) (h2:m.length<549755813888):Pure Tryz.prog 233 [cNat l,cNat m] (· = .tup [cN (val l-val m),.int .i64 (if val l<val m then 10 else 0)]):=by
 (refine pureW Tryz.func233 rfl (rs:=[Go.ResultVar.tmp 4,Go.ResultVar.tmp 5]) rfl (n:=48) rfl ?_;simp only [List.length_cons,List.length_nil,List.replicate,List.cons_append,List.nil_append])
 (refine aNa ?_)
 refine W_seq ?_
 ((refine W_seqV ?_);intro K hK;(refine sNa ?_))
 (refine ⟨by kernel_rfl,_,.pure rfl (ncmp_ok l m hl hm (by omega) (by omega)),?_⟩;(try (refine sNa ?_)))
 (refine hK _ ?_;clear hK K)
 (repeat' (first | (refine W_seqV fun K hK=>?_;(try (refine sNa ?_));refine hK _ ?_;clear hK K) | refine W_skip ?_ | (refine W_ret ?_;(refine qG ?_)) | (refine W_cond rfl (fun h=>?_) (fun h=>?_) <;> (try simp only [cond_true,cond_false,ne_eq,cB] at h)) | refine W_seq ?_))
 ·simp only [sgn] at h
  have hlt:val l<val m:=by split at h <;> first | assumption | (exfalso;split at h <;> omega)
  simp [hlt,show val l-val m=0 by omega,limbs_zero,u32s]
 simp only [sgn] at h
 have hle:val m≤val l:=by
  refine Nat.le_of_not_lt fun hlt=>?_
  rw [if_pos hlt] at h
  omega
 clear h
 have hle':¬ val l<val m:=by omega
 simp only [hle',if_false]
 have hML:(limbs (val m)).length≤l.length:=limbs_length_le (Nat.lt_of_le_of_lt hle (val_lt hl))
 have hvm:=val_limbs (val m)
 have hLm:=limbs_limbs (val m)
 ((refine W_regV ?_);intro K hK;(refine sNa ?_))
 (refine ⟨by kernel_rfl,_,.pure rfl (trim_ok' m hm (by omega)),?_⟩;(try (refine sNa ?_)))
 generalize limbs (val m)=m' at *
 (refine hK _ ?_;clear hK K)
 (repeat' (first | refine W_block ?_ | (refine W_seqV fun K hK=>?_;(try (refine sNa ?_));refine hK _ ?_;clear hK K) | (refine W_seqR fun K hK=>?_;(try (refine sNa ?_));(repeat refine aI ?_);refine hK _ ?_;clear hK K) | refine W_seq ?_))
 refine W_loop (fun t:{t:Nat × List Nat × Nat // t.1≤l.length∧t.2.1.length=l.length∧Limbs t.2.1∧t.2.2≤1∧val (t.2.1.take t.1)+val (m'.take t.1)=val (l.take t.1)+4294967296^t.1*t.2.2} =>
   ⟨[.sl (u32s l),.sl (u32s m'),.any,.any,.any,.any,.sref 18 0 l.length,.int .u32 t.1.2.2,.any,.any,.any,.any,.any,.any,.any,.any,.any,.any,.any,.any,.int .i64 l.length,.int .i64 t.1.1,.any,.any,.any,.any,.any,.any,.any,.any,.any,.any,.any,.any,.any,.any,.any,.any,.any,.any,.any,.any,.any,.any,.any,.any,.any,.any],[.dead,.dead,.dead,.dead,.dead,.dead,.dead,.dead,.dead,.dead,.dead,.dead,.dead,.dead,.dead,.dead,.dead,.dead,.arr 179 1 true (u32s t.1.2.1),.dead,.dead,.dead,.dead,.dead,.dead,.dead,.dead,.dead,.dead,.dead,.dead,.dead,.dead,.dead,.dead,.dead,.dead,.dead,.dead,.dead,.dead,.dead,.dead,.dead,.dead,.dead,.dead,.dead]⟩) (fun t=>l.length-t.1.1)
  ⟨(0,List.replicate l.length 0,0),by simp,by simp,Limbs.rep _,by simp,by simp [val]⟩ (Le_of (by simp [leE]) rfl) fun t=>?_
 obtain ⟨⟨i,c,k⟩,h3,h4,h5,h6,h7⟩:=t
 dsimp only at h3 h4 h5 h6 h7 ⊢
 (repeat' (first|refine W_block ?_|(refine W_seqV fun K hK=>?_;(try (refine sNa ?_));refine hK _ ?_;clear hK K)|(refine W_regV fun K hK=>?_;(try (refine sNa ?_));(repeat refine aI ?_);refine hK _ ?_;clear hK K)|refine W_skip ?_|(refine W_exit ?_;simp only [thenW,blockW,if_true,reduceCtorEq,if_false,Nat.reduceEqDiff])|(refine W_cond rfl (fun h=>?_) (fun h=>?_) <;> (try simp only [cond_true,cond_false,ne_eq,cB] at h))|refine W_seq ?_))
 ·have hi:i<c.length:=by omega
  (refine W_regV fun K hK=>?_;(refine sNa ?_;try exact True.intro))
  ((repeat refine aI ?_);refine ⟨by kernel_rfl,_,.pure rfl (sub32_ok _ _ k (hl.getD i) (hLm.getD i) (by omega)),?_⟩;(try (refine sNa ?_));(repeat refine aI ?_))
  (refine hK _ ?_;clear hK K)
  (repeat' (refine W_regV fun K hK=>?_;(try (refine sNa ?_));refine hK _ ?_;clear hK K))
  have hx:=hl.getD i
  have hy:=hLm.getD i
  refine ⟨⟨(i+1,c.set i ((l.getD i 0+2*4294967296-m'.getD i 0-k)%4294967296),if l.getD i 0<m'.getD i 0+k then 1 else 0),by dsimp only;omega,by simpa using h4,h5.set i (by omega),by dsimp only;split <;> omega,?_⟩,Le_of (by simp only [leE,or_true,true_or,and_true,true_and]) rfl,by dsimp only;omega⟩
  dsimp only
  rw [val_take_set hi,val_take_succ,val_take_succ,Nat.pow_succ]
  exact sub_round h7 (by split <;> omega)
 ·have hi:i<c.length:=by omega
  have h0:m'.getD i 0=0:=by simp [List.getD_eq_getElem?_getD,h]
  (refine W_regV fun K hK=>?_;(refine sNa ?_;try exact True.intro))
  ((repeat refine aI ?_);refine ⟨by kernel_rfl,_,.pure rfl (sub32_ok _ 0 k (hl.getD i) (by omega) (by omega)),?_⟩;(try (refine sNa ?_));(repeat refine aI ?_))
  (refine hK _ ?_;clear hK K)
  (repeat' (refine W_regV fun K hK=>?_;(try (refine sNa ?_));refine hK _ ?_;clear hK K))
  have hx:=hl.getD i
  refine ⟨⟨(i+1,c.set i ((l.getD i 0+2*4294967296-0-k)%4294967296),if l.getD i 0<0+k then 1 else 0),by dsimp only;omega,by simpa using h4,h5.set i (by omega),by dsimp only;split <;> omega,?_⟩,Le_of (by simp only [leE,or_true,true_or,and_true,true_and,Nat.zero_add,Nat.sub_zero]) (by simp),by dsimp only;omega⟩
  dsimp only
  rw [val_take_set hi,val_take_succ,val_take_succ,Nat.pow_succ,h0]
  exact sub_round h7 (by split <;> omega)
 ·have h0:i=l.length:=by omega
  subst h0
  rw [List.take_length,List.take_of_length_le hML,hvm,List.take_of_length_le (by omega)] at h7
  have hc:=val_lt h5
  rw [h4] at hc
  have hk:k=0:=by
   rcases Nat.eq_zero_or_pos k with h0 | h0
   ·exact h0
   ·have:k=1:=by omega
    subst this
    omega
  subst hk
  (refine W.le ?_ (Le_freeze 18 (rows:=u32s c) rfl (by simp) (.inl rfl));simp only [St.freeze,List.map_cons,List.map_nil,List.set,if_true,if_false,Nat.reduceEqDiff,reduceCtorEq,List.drop_zero,u32s_take,u32s_drop,froz_any,froz_und,froz_int,froz_bool,froz_str,froz_nils,froz_sl,froz_ia,froz_nilp,froz_nilif,froz_nilfn,froz_nilmp,froz_gl,froz_sref,froz_ptr,froz_agg,froz_tup,froz_fn,froz_ifc,frozs_nil,frozs_cons,froz_dead,froz_arr,froz_mp,froz_it,froz_md,froz_map,froz_iter])
  rw [List.take_of_length_le (by omega)]
  (refine W_regV fun K hK=>?_;(refine sNa ?_;try exact True.intro))
  (refine ⟨by kernel_rfl,_,.pure rfl (own_ok' _ h5 (by omega)),?_⟩;(try (refine sNa ?_)))
  (refine hK _ ?_;clear hK K)
  refine W_ret ?_
  (refine qG ?_;try exact True.intro)
  rw [show val c=val l-val m by omega]
end Go.Proofs.YtjmkfbhecgkbmaaGreat.Vm
namespace Go.Proofs.YtjmkfbhecgkbmaaGreat.Vm
open Go Go.RowKit
set_option maxHeartbeats 2000000 in
theorem nmul_ok (l0 m0:List Nat) (hl0:Limbs l0) (hm0:Limbs m0) (h1:l0.length<274877906944) (h2:m0.length<274877906944):Pure Tryz.prog 188 [cNat l0,cNat m0] (·=cN (val l0*val m0)):=by
 have hl1:=limbs_val_length hl0
 have hm1:=limbs_val_length hm0
 have hl:=limbs_limbs (val l0)
 have hm:=limbs_limbs (val m0)
 have hvl:=val_limbs (val l0)
 have hvm:=val_limbs (val m0)
 (refine pureW Tryz.func188 rfl (rs:=[Go.ResultVar.tmp 4]) rfl (n:=72) rfl ?_;simp only [List.length_cons,List.length_nil,List.replicate,List.cons_append,List.nil_append])
 (refine aNa ?_)
 ((refine W_seqV ?_);intro K hK;(refine sNa ?_))
 (refine ⟨by kernel_rfl,_,.pure rfl (trim_ok' l0 hl0 (by omega)),?_⟩;(try (refine sNa ?_)))
 (refine ⟨by kernel_rfl,_,.pure rfl (trim_ok' m0 hm0 (by omega)),?_⟩;(try (refine sNa ?_)))
 generalize limbs (val l0)=l at *
 generalize limbs (val m0)=m at *
 (refine hK _ ?_;clear hK K)
 (repeat' (first | refine W_block ?_ | (refine W_seqV fun K hK=>?_;(try (refine sNa ?_));refine hK _ ?_;clear hK K) | (refine W_seqR fun K hK=>?_;(try (refine sNa ?_));(repeat refine aI ?_);refine hK _ ?_;clear hK K) | refine W_seq ?_))
 refine W_loop (fun t:{t:Nat × List Nat // t.1≤l.length∧t.2.length=l.length+m.length∧Limbs t.2∧val (t.2.take (t.1+m.length))=val (l.take t.1)*val m} =>
   ((fun (a_:AV) (d_:Ob)=>(⟨((.sl (u32s l))::(.sl (u32s m))::a_::a_::a_::(.sref 19 0 (l.length+m.length))::a_::a_::a_::a_::a_::a_::a_::a_::a_::a_::a_::a_::a_::a_::a_::(.int .i64 l.length)::(.int .i64 t.1.1)::a_::a_::a_::a_::a_::a_::a_::a_::a_::a_::a_::a_::a_::a_::a_::a_::a_::a_::a_::a_::a_::a_::a_::a_::a_::a_::a_::a_::a_::a_::a_::a_::a_::a_::a_::a_::a_::a_::a_::a_::a_::a_::a_::a_::a_::a_::a_::a_::a_::[]),(d_::d_::d_::d_::d_::d_::d_::d_::d_::d_::d_::d_::d_::d_::d_::d_::d_::d_::d_::(.arr 179 1 true (u32s t.1.2))::d_::d_::d_::d_::d_::d_::d_::d_::d_::d_::d_::d_::d_::d_::d_::d_::d_::d_::d_::d_::d_::d_::d_::d_::d_::d_::d_::d_::d_::d_::d_::d_::d_::d_::d_::d_::d_::d_::d_::d_::d_::d_::d_::d_::d_::d_::d_::d_::d_::d_::d_::d_::[])⟩:St)) .any .dead)) (fun t=>l.length-t.1.1)
  ⟨(0,List.replicate (l.length+m.length) 0),by simp,by simp,Limbs.rep _,by simp [val,List.take_replicate,val_zeros]⟩ (Le_of (by simp [leE]) rfl) fun t=>?_
 obtain ⟨⟨i,c0⟩,h3,h4,h5,h7⟩:=t
 dsimp only at h3 h4 h5 h7 ⊢
 (repeat' (first | refine W_block ?_ | (refine W_seqV fun K hK=>?_;(try (refine sNa ?_));refine hK _ ?_;clear hK K) | refine W_skip ?_ | (refine W_exit ?_;simp only [thenW,blockW,if_true,reduceCtorEq,if_false,Nat.reduceEqDiff]) | (refine W_cond rfl (fun h=>?_) (fun h=>?_) <;> (try simp only [cond_true,cond_false,ne_eq,cB] at h)) | refine W_seq ?_))
 ·have hx:=hl.getD i
  refine W_loop (fun t:{t:Nat × List Nat × Nat // t.1≤m.length∧t.2.1.length=l.length+m.length∧Limbs t.2.1∧t.2.2<4294967296∧val (t.2.1.take (i+m.length))+4294967296^(i+t.1)*t.2.2=val (c0.take (i+m.length))+4294967296^i*l.getD i 0*val (m.take t.1)} =>
   ((fun (a_:AV) (d_:Ob)=>(⟨((.sl (u32s l))::(.sl (u32s m))::a_::a_::a_::(.sref 19 0 (l.length+m.length))::(.int .i64 i)::(.int .u64 t.1.2.2)::a_::a_::a_::a_::a_::a_::a_::a_::a_::a_::a_::a_::a_::(.int .i64 l.length)::(.int .i64 i)::a_::a_::a_::(.int .i64 m.length)::(.int .i64 t.1.1)::a_::a_::a_::a_::a_::a_::a_::a_::a_::a_::a_::a_::a_::a_::a_::a_::a_::a_::a_::a_::a_::a_::a_::a_::a_::a_::a_::a_::a_::a_::a_::a_::a_::a_::a_::a_::a_::a_::a_::a_::a_::a_::a_::a_::[]),(d_::d_::d_::d_::d_::d_::d_::d_::d_::d_::d_::d_::d_::d_::d_::d_::d_::d_::d_::(.arr 179 1 true (u32s t.1.2.1))::d_::d_::d_::d_::d_::d_::d_::d_::d_::d_::d_::d_::d_::d_::d_::d_::d_::d_::d_::d_::d_::d_::d_::d_::d_::d_::d_::d_::d_::d_::d_::d_::d_::d_::d_::d_::d_::d_::d_::d_::d_::d_::d_::d_::d_::d_::d_::d_::d_::d_::d_::d_::[])⟩:St)) .any .dead)) (fun t=>m.length-t.1.1)
   ⟨(0,c0,0),by simp,h4,h5,by simp,by simp [val]⟩ (Le_of (by simp [leE]) rfl) fun t=>?_
  obtain ⟨⟨j,c,k⟩,h8,h9,h10,h11,h12⟩:=t
  dsimp only at h8 h9 h10 h11 h12 ⊢
  have hy:=hm.getD j
  have hz:=h10.getD (i+j)
  have hxy:l.getD i 0*m.getD j 0≤4294967295*4294967295:=Nat.mul_le_mul (by omega) (by omega)
  (repeat' (first|refine W_block ?_|(refine W_seqV fun K hK=>?_;(try (refine sNa ?_));(repeat refine aI ?_);refine hK _ ?_;clear hK K)|(refine W_seqD mixed [] (by kernel_rfl) fun K hK=>?_;(try (refine sNa ?_));(repeat refine aI ?_);refine hK _ ?_;clear hK K)|(refine W_regV fun K hK=>?_;(try (refine sNa ?_));(repeat refine aI ?_);refine hK _ ?_;clear hK K)|refine W_skip ?_|(refine W_exit ?_;simp only [thenW,blockW,if_true,reduceCtorEq,if_false,Nat.reduceEqDiff])|(refine W_cond rfl (fun h=>?_) (fun h=>?_) <;> (try simp only [cond_true,cond_false,ne_eq,cB] at h))|refine W_seq ?_))
  ·refine ⟨⟨(j+1,c.set (i+j) ((l.getD i 0*m.getD j 0+c.getD (i+j) 0+k)%4294967296),(l.getD i 0*m.getD j 0+c.getD (i+j) 0+k) / 4294967296),by dsimp only;omega,by simpa using h9,h10.set _ (by omega),by dsimp only;omega,?_⟩,Le_of (by simp only [leE,or_true,true_or,and_true,true_and]) rfl,by dsimp only;omega⟩
   dsimp only
   have hp:i+j<(c.take (i+m.length)).length:=by rw [List.length_take];omega
   have hset:=val_set hp ((l.getD i 0*m.getD j 0+c.getD (i+j) 0+k)%4294967296)
   rw [show (c.take (i+m.length)).getD (i+j) 0=c.getD (i+j) 0 by simp [List.getD_eq_getElem?_getD,List.getElem?_take,show j<m.length by omega]] at hset
   rw [List.take_set,val_take_succ,← Nat.add_assoc,Nat.pow_succ]
   exact mul_round h12 hset (by omega) (Nat.pow_add _ _ _)
  ·have h0:j=m.length:=by omega
   subst h0
   have hp:i+m.length<c.length:=by omega
   rw [List.take_length] at h12
   refine ⟨⟨(i+1,c.set (i+m.length) (k%4294967296)),by dsimp only;omega,by simpa using h9,h10.set _ (by omega),?_⟩,Le_of (by simp only [leE,or_true,true_or,and_true,true_and]) rfl,by dsimp only;omega⟩
   dsimp only
   rw [show i+1+m.length=i+m.length+1 by omega,val_take_set hp,Nat.mod_eq_of_lt h11,h12,h7,val_take_succ,Nat.add_mul]
 ·have h0:i=l.length:=by omega
  subst h0
  rw [List.take_length,List.take_of_length_le (by omega)] at h7
  (refine W.le ?_ (Le_freeze 19 (rows:=u32s c0) rfl (by simp) (.inl rfl));simp only [St.freeze,List.map_cons,List.map_nil,List.set,if_true,if_false,Nat.reduceEqDiff,reduceCtorEq,List.drop_zero,u32s_take,u32s_drop,froz_any,froz_und,froz_int,froz_bool,froz_str,froz_nils,froz_sl,froz_ia,froz_nilp,froz_nilif,froz_nilfn,froz_nilmp,froz_gl,froz_sref,froz_ptr,froz_agg,froz_tup,froz_fn,froz_ifc,frozs_nil,frozs_cons,froz_dead,froz_arr,froz_mp,froz_it,froz_md,froz_map,froz_iter])
  rw [List.take_of_length_le (by omega)]
  ((refine W_regV ?_);intro K hK;(refine sNa ?_))
  (refine ⟨by kernel_rfl,_,.pure rfl (own_ok' _ h5 (by omega)),?_⟩;(try (refine sNa ?_)))
  (refine hK _ ?_;clear hK K)
  refine W_ret ?_
  (refine qG ?_;try exact True.intro)
  rw [h7,hvl,hvm]
end Go.Proofs.YtjmkfbhecgkbmaaGreat.Vm
namespace Go.Proofs.YtjmkfbhecgkbmaaGreat.Vm
open Go Go.RowKit
theorem or_add {a b k:Nat} (h:b<2^k):a*2^k ||| b=a*2^k+b:=by
 rw [Nat.mul_comm,Nat.two_pow_add_eq_or_of_lt h]
set_option maxHeartbeats 1000000 in
theorem div32_ok (hi lo y:Nat) (h1:hi<y) (h2:lo<4294967296) (hy:y<4294967296):Pure Tryz.prog 262 [.int .u32 hi,.int .u32 lo,.int .u32 y] (· = .tup [.int .u32 ((hi*4294967296+lo) / y:Nat),.int .u32 ((hi*4294967296+lo)%y:Nat)]):=by
 have h0:y≠0:=by omega
 have hq:(hi*4294967296+lo) / y<4294967296:=Nat.div_lt_of_lt_mul (by
  have:(hi+1)*4294967296≤y*4294967296:=Nat.mul_le_mul_right _ h1
  omega)
 have hr:(hi*4294967296+lo)%y<y:=Nat.mod_lt _ (by omega)
 have ho:hi*4294967296 ||| lo=hi*4294967296+lo:=or_add (k:=32) h2
 (refine pureW Tryz.func262 rfl (rs:=[Go.ResultVar.tmp 6,Go.ResultVar.tmp 7]) rfl (n:=33) rfl ?_;simp only [List.length_cons,List.length_nil,List.replicate,List.cons_append,List.nil_append])
 (repeat' (first | (refine W_seqV fun K hK=>?_;(try (refine sNa ?_));refine hK _ ?_;clear hK K) | refine W_seq ?_))
 ((refine W_regV ?_);intro K hK;(refine sNa ?_))
 have hne:((y:Int) != 0)=true:=by simp;omega
 simp only [hne]
 try (refine sNa ?_;try exact True.intro)
 (refine hK _ ?_;clear hK K)
 (repeat' (first | (refine W_seqV fun K hK=>?_;(try (refine sNa ?_));refine hK _ ?_;clear hK K) | (refine W_seqD mixed [] (by kernel_rfl) fun K hK=>?_;(try (refine sNa ?_));(repeat refine aI ?_);refine hK _ ?_;clear hK K) | refine W_skip ?_ | (refine W_ret ?_;(refine qG ?_)) | (refine W_cond rfl (fun h=>?_) (fun h=>?_) <;> (try simp only [cond_true,cond_false,ne_eq,cB] at h))))
 ·first | omega | (simp at h;omega)
 rw [ho]
 (refine sNa ?_;try exact True.intro)
 rw [Nat.mod_eq_of_lt hq,Nat.mod_eq_of_lt (Nat.lt_trans hr hy)]
def blen (n:Nat):Nat:=if h:n=0 then 0 else blen (n / 2)+1
 termination_by n
 decreasing_by omega
theorem blen_eq {n b:Nat} (h:n<2^b) (h':b=0∨2^(b-1)≤n):blen n=b:=by
 induction b generalizing n with
 | zero =>
  have:n=0:=by simpa using h
  subst this
  unfold blen
  simp
 | succ b ih =>
  have h1:2^b≤n:=by
   rcases h' with h' | h'
   ·omega
   ·simpa using h'
  have h2:0<2^b:=Nat.pow_pos (by omega)
  unfold blen
  rw [dif_neg (by omega),ih (by rw [Nat.pow_succ] at h;omega)]
  cases b with
  | zero=>exact .inl rfl
  | succ b=>right;rw [Nat.pow_succ] at h1;simp;omega
theorem blen_spec (n:Nat):n<2^blen n∧(blen n=0∨2^(blen n-1)≤n):=by
 induction n using Nat.strongRecOn with
 | _ n ih =>
  by_cases h:n=0
  ·subst h;unfold blen;simp
  ·obtain ⟨h1,h2⟩:=ih (n / 2) (by omega)
   have h3:blen n=blen (n / 2)+1:=by
    conv=>lhs;unfold blen
    rw [dif_neg h]
   rw [h3]
   refine ⟨by rw [Nat.pow_succ];omega,.inr ?_⟩
   rw [Nat.add_sub_cancel]
   rcases h2 with h2 | h2
   ·rw [h2];omega
   ·cases hb:blen (n / 2) with
    | zero=>rw [Nat.pow_zero];omega
    | succ b=>rw [hb] at h2;rw [Nat.pow_succ];simp at h2;omega
theorem blen_shift {n k:Nat} (h:2^k≤n):blen n=k+blen (n / 2^k):=by
 have h0:0<2^k:=Nat.pow_pos (by omega)
 have h1:0<n / 2^k:=Nat.div_pos h h0
 obtain ⟨h2,h3⟩:=blen_spec (n / 2^k)
 have h4:blen (n / 2^k)≠0:=by
  intro h5
  rw [h5] at h2
  simp at h2
  omega
 refine blen_eq ?_ (.inr ?_)
 ·rw [Nat.pow_add]
  have:=(Nat.div_lt_iff_lt_mul h0).1 h2
  rwa [Nat.mul_comm]
 ·rw [show k+blen (n / 2^k)-1=k+(blen (n / 2^k)-1) by omega,Nat.pow_add,Nat.mul_comm]
  have h5:=h3.resolve_left h4
  exact (Nat.le_div_iff_mul_le h0).1 h5
theorem blen_le {n k:Nat} (h:n<2^k):blen n≤k:=by
 rcases (blen_spec n).2 with h1 | h1
 ·omega
 ·refine Nat.le_of_not_lt fun hlt=>?_
  have:2^k≤2^(blen n-1):=Nat.pow_le_pow_right (by omega) (by omega)
  omega
theorem wrap_small {n:Nat} (h:n<1000):IntKind.wrap .i64 (n:Int)=n:=wrap_i64 (by omega) (by omega)
def tabOk (T:ByteArray):Bool:=(List.range 256).all fun n=>decide (n<2^(T.get! n).toNat)&&(decide ((T.get! n).toNat=0) || decide (2^((T.get! n).toNat-1)≤n))
theorem tab_get {T:ByteArray} (h:tabOk T=true) {x:Nat} (hx:x<256):(T.get! x).toNat=blen x:=by
 have:=List.all_eq_true.1 h x (by simpa using hx)
 simp only [Bool.and_eq_true,Bool.or_eq_true,decide_eq_true_eq] at this
 exact (blen_eq this.1 this.2).symm
set_option maxHeartbeats 1000000 in
set_option maxRecDepth 10000 in
theorem len32_ok (x:Nat) (hx:x<4294967296):Pure Tryz.prog 228 [.int .u32 x] (· = .int .i64 (blen x)):=by
 (refine pureW Tryz.func228 rfl (rs:=[Go.ResultVar.tmp 2]) rfl (n:=19) rfl ?_;simp only [List.length_cons,List.length_nil,List.replicate,List.cons_append,List.nil_append])
 (repeat' (first | (refine W_seqV fun K hK=>?_;(try (refine sNa ?_));refine hK _ ?_;clear hK K) | (refine W_regV fun K hK=>?_;(try (refine sNa ?_));refine hK _ ?_;clear hK K) | refine W_skip ?_ | (refine W_cond rfl (fun h=>?_) (fun h=>?_) <;> (try simp only [cond_true,cond_false,ne_eq,cB] at h)) | refine W_seq ?_))
 all_goals (((first | refine W_seqV ?_ | refine W_seq (W_seqV ?_) | refine W_regV ?_);intro K hK;(refine sNa ?_;try exact True.intro));refine And.intro (Nat.lt_of_lt_of_le (Nat.mod_lt _ (by omega)) (by decide)) ?_;((repeat refine aI ?_);refine hK _ ?_;clear hK K);refine W_ret ?_;(refine qG ?_;try exact True.intro);rw [tab_get (by kernel_rfl) (Nat.mod_lt _ (by omega))])
 ·have e0:x / 65536 / 256%256=x / 65536 / 256:=by omega
  have e1:=blen_shift (n:=x) (k:=16) (by omega)
  have e2:=blen_shift (n:=x / 2^16) (k:=8) (by omega)
  have e3:=blen_le (n:=x / 65536 / 256) (k:=8) (by omega)
  simp only [Nat.reducePow] at e1 e2
  rw [e0,wrap_small (n:=blen (x / 65536 / 256)) (by omega),wrap_i64 (x:=24) (by omega) (by omega),wrap_i64 (by omega) (by omega)]
  congr 1
  omega
 ·have e0:x / 65536%256=x / 65536:=by omega
  have e1:=blen_shift (n:=x) (k:=16) (by omega)
  have e3:=blen_le (n:=x / 65536) (k:=8) (by omega)
  simp only [Nat.reducePow] at e1
  rw [e0,wrap_small (n:=blen (x / 65536)) (by omega),wrap_i64 (by omega) (by omega)]
  congr 1
  omega
 ·have e0:x / 256%256=x / 256:=by omega
  have e1:=blen_shift (n:=x) (k:=8) (by omega)
  have e3:=blen_le (n:=x / 256) (k:=8) (by omega)
  simp only [Nat.reducePow] at e1
  rw [e0,wrap_small (n:=blen (x / 256)) (by omega),wrap_i64 (x:=8) (by omega) (by omega),wrap_i64 (by omega) (by omega)]
  congr 1
  omega
 ·have e0:x%256=x:=by omega
  have e3:=blen_le (n:=x) (k:=8) (by omega)
  rw [e0,wrap_small (n:=blen x) (by omega),wrap_i64 (by omega) (by omega)]
  congr 1
  omega
theorem lz32_ok (x:Nat) (hx:x<4294967296):Pure Tryz.prog 266 [.int .u32 x] (· = .int .i64 ((32-blen x:Nat):Int)):=by
 have h:=blen_le (n:=x) (k:=32) hx
 (refine pureW Tryz.func266 rfl (rs:=[Go.ResultVar.tmp 2]) rfl (n:=6) rfl ?_;simp only [List.length_cons,List.length_nil,List.replicate,List.cons_append,List.nil_append])
 (refine aNa ?_)
 ((refine W_seqV ?_);intro K hK;(refine sNa ?_))
 (refine ⟨by kernel_rfl,_,.pure rfl (len32_ok x hx),?_⟩;(try (refine sNa ?_)))
 (refine hK _ ?_;clear hK K)
 refine W_ret ?_
 (refine qG ?_;try exact True.intro)
end Go.Proofs.YtjmkfbhecgkbmaaGreat.Vm
namespace Go.Proofs.YtjmkfbhecgkbmaaGreat.Vm
open Go Go.RowKit
set_option maxHeartbeats 1000000 in
theorem short_ok (l:List Nat) (b:Nat) (hl:Limbs l) (h1:l.length<549755813888) (hb0:0<b) (hb:b<4294967296):Pure Tryz.prog 246 [cNat l,.int .u32 b] (· = .tup [cNat (padL l.length (val l / b)),.int .u32 (val l%b:Nat)]):=by
 (refine pureW Tryz.func246 rfl (rs:=[Go.ResultVar.tmp 4,Go.ResultVar.tmp 5]) rfl (n:=34) rfl ?_;simp only [List.length_cons,List.length_nil,List.replicate,List.cons_append,List.nil_append])
 (repeat' (first | refine W_block ?_ | (refine W_seqV fun K hK=>?_;(try (refine sNa ?_));refine hK _ ?_;clear hK K) | (refine W_seqR fun K hK=>?_;(try (refine sNa ?_));(repeat refine aI ?_);refine hK _ ?_;clear hK K) | refine W_seq ?_))
 refine W_loop (fun t:{t:Nat × List Nat × Nat // t.1≤l.length∧t.2.1.length=l.length∧Limbs t.2.1∧t.2.2<b∧val (t.2.1.drop t.1)*b+t.2.2=val (l.drop t.1)} =>
   ⟨[.sl (u32s l),.int .u32 b,.any,.any,.any,.any,.sref 11 0 l.length,.int .u32 t.1.2.2,.int .i64 ((t.1.1:Int)-1),.any,.any,.any,.any,.any,.any,.any,.any,.any,.any,.any,.any,.any,.any,.any,.any,.any,.any,.any,.any,.any,.any,.any,.any,.any],[.dead,.dead,.dead,.dead,.dead,.dead,.dead,.dead,.dead,.dead,.dead,.arr 179 1 true (u32s t.1.2.1),.dead,.dead,.dead,.dead,.dead,.dead,.dead,.dead,.dead,.dead,.dead,.dead,.dead,.dead,.dead,.dead,.dead,.dead,.dead,.dead,.dead,.dead]⟩) (fun t=>t.1.1)
  ⟨(l.length,List.replicate l.length 0,0),by simp,by simp,Limbs.rep _,by simpa using hb0,by simp [val]⟩ (Le_of ?_ rfl) fun t=>?_
 ·simp [leE]
  exact wrap_i64 (by omega) (by omega)
 obtain ⟨⟨i,q,k⟩,h3,h4,h5,h6,h7⟩:=t
 dsimp only at h3 h4 h5 h6 h7 ⊢
 rcases i with _ | i
 ·refine W_seq ?_
  ((refine W_seqV ?_);intro K hK;(refine sNa ?_))
  (refine hK _ ?_;clear hK K)
  (repeat' (first | (exfalso;simp at h;done) | (refine W_seqV fun K hK=>?_;(try (refine sNa ?_));refine hK _ ?_;clear hK K) | (refine W_ret ?_;(refine qG ?_)) | (refine W_exit ?_;simp only [thenW,blockW,if_true,reduceCtorEq,if_false,Nat.reduceEqDiff]) | (refine W_cond rfl (fun h=>?_) (fun h=>?_) <;> (try simp only [cond_true,cond_false,ne_eq,cB] at h))))
  simp only [List.drop_zero] at h7
  have e1:val l / b=val q:=by
   rw [← h7,Nat.mul_comm,Nat.mul_add_div hb0,Nat.div_eq_of_lt h6,Nat.add_zero]
  have e2:val l%b=k:=by
   rw [← h7,Nat.mul_comm,Nat.mul_add_mod,Nat.mod_eq_of_lt h6]
  rw [List.take_of_length_le (by omega),e1,e2,← padL_of h5 h4 rfl]
 ·have hj:((i+1:Nat):Int)-1=i:=by omega
  rw [hj]
  have hi:i<l.length:=by omega
  have hx:=hl.getD i
  have hq:(k*4294967296+l.getD i 0) / b<4294967296:=Nat.div_lt_of_lt_mul (by
   have:(k+1)*4294967296≤b*4294967296:=Nat.mul_le_mul_right _ h6
   omega)
  have hr:(k*4294967296+l.getD i 0)%b<b:=Nat.mod_lt _ hb0
  have hdm:=Nat.div_add_mod (k*4294967296+l.getD i 0) b
  (repeat' (first | (exfalso;simp at h;done) | refine W_block ?_ | (refine W_seqV fun K hK=>?_;(try (refine sNa ?_));refine hK _ ?_;clear hK K) | refine W_skip ?_ | (refine W_cond rfl (fun h=>?_) (fun h=>?_) <;> (try simp only [cond_true,cond_false,ne_eq,cB] at h)) | refine W_seq ?_))
  ((refine W_regV ?_);intro K hK;(refine sNa ?_))
  ((repeat refine aI ?_);refine ⟨by kernel_rfl,_,.pure rfl (div32_ok k (l.getD i 0) b h6 hx hb),?_⟩;(try (refine sNa ?_));(repeat refine aI ?_))
  (refine hK _ ?_;clear hK K)
  (repeat' (refine W_regV fun K hK=>?_;(try (refine sNa ?_));refine hK _ ?_;clear hK K))
  refine ⟨⟨(i,q.set i ((k*4294967296+l.getD i 0) / b),(k*4294967296+l.getD i 0)%b),by dsimp only;omega,by simpa using h4,h5.set _ hq,hr,?_⟩,Le_of ?_ rfl,by dsimp only;omega⟩
  ·dsimp only
   rw [drop_set_self (by omega),drop_getD hi,val,val,← h7]
   generalize (k*4294967296+l.getD i 0) / b=d at *
   generalize (k*4294967296+l.getD i 0)%b=r at *
   rw [Nat.add_mul,Nat.mul_add,Nat.mul_assoc]
   rw [Nat.mul_comm b d] at hdm
   omega
  ·simp only [leE,or_true,true_or,and_true,true_and]
   simp
   exact wrap_i64 (by omega) (by omega)
end Go.Proofs.YtjmkfbhecgkbmaaGreat.Vm
namespace Go.Proofs.YtjmkfbhecgkbmaaGreat.Vm
open Go Go.RowKit
theorem or_low {a x u:Nat} (hu:u<32) (ha:a<2^u):a ||| (x*2^u%4294967296)=a+x*2^u%4294967296:=by
 have h1:x*2^u%4294967296=(x%2^(32-u))*2^u:=by
  rw [show (4294967296:Nat)=2^(32-u)*2^u by rw [← Nat.pow_add,show 32-u+u=32 by omega],Nat.mul_mod_mul_right]
 rw [h1,Nat.or_comm,or_add ha,Nat.add_comm]
theorem split_shl {x u:Nat} (hu:u<32):x*2^u%4294967296+4294967296*(x / 2^(32-u))=x*2^u:=by
 have h2:x / 2^(32-u)=x*2^u / 4294967296:=by
  rw [show (4294967296:Nat)=2^(32-u)*2^u by rw [← Nat.pow_add,show 32-u+u=32 by omega],Nat.mul_div_mul_right _ _ (Nat.pow_pos (by omega))]
 rw [h2]
 exact Nat.mod_add_div _ _
set_option maxHeartbeats 1000000 in
theorem moved_new (l:List Nat) (u:Nat) (hl:Limbs l) (h1:l.length<549755813888) (hu:u<32):New Tryz.prog 267 [cNat l,.int .i64 u] 179 1 (·=u32s (padL (l.length+1) (val l*2^u))):=by
 (refine new_of_W (T:=179) (k:=1) Tryz.func267 rfl (rs:=[Go.ResultVar.tmp 4]) rfl (nt:=43) rfl ?_;simp only [List.length_cons,List.length_nil,List.replicate,List.cons_append,List.nil_append])
 (repeat' (first | refine W_block ?_ | (refine W_seqV fun K hK=>?_;(try (refine sNa ?_));refine hK _ ?_;clear hK K) | (refine W_seqR fun K hK=>?_;(try (refine sNa ?_));(repeat refine aI ?_);refine hK _ ?_;clear hK K) | refine W_seq ?_))
 refine W_loop (fun t:{t:Nat × List Nat // t.1≤l.length∧t.2.length=l.length+1∧Limbs t.2∧t.2.getD t.1 0<2^u∧val (t.2.take (t.1+1))=val (l.take t.1)*2^u} =>
   ⟨[.sl (u32s l),.int .i64 u,.any,.any,.any,.sref 10 0 (l.length+1),.any,.any,.any,.any,.any,.any,.int .i64 l.length,.int .i64 t.1.1,.any,.any,.any,.any,.any,.any,.any,.any,.any,.any,.any,.any,.any,.any,.any,.any,.any,.any,.any,.any,.any,.any,.any,.any,.any,.any,.any,.any,.any],[.dead,.dead,.dead,.dead,.dead,.dead,.dead,.dead,.dead,.dead,.arr 179 1 true (u32s t.1.2),.dead,.dead,.dead,.dead,.dead,.dead,.dead,.dead,.dead,.dead,.dead,.dead,.dead,.dead,.dead,.dead,.dead,.dead,.dead,.dead,.dead,.dead,.dead,.dead,.dead,.dead,.dead,.dead,.dead,.dead,.dead,.dead]⟩) (fun t=>l.length-t.1.1)
  ⟨(0,List.replicate (l.length+1) 0),by simp,by simp,Limbs.rep _,by simp [List.getD_eq_getElem?_getD,Nat.pow_pos],by simp [val,List.take_replicate,val_zeros]⟩ (Le_of (by simp [leE]) rfl) fun t=>?_
 obtain ⟨⟨i,c⟩,h3,h4,h5,h6,h7⟩:=t
 dsimp only at h3 h4 h5 h6 h7 ⊢
 have hx:=hl.getD i
 have hc:=h5.getD i
 (repeat' (first|refine W_block ?_|(refine W_seqV fun K hK=>?_;(try (refine sNa ?_));refine hK _ ?_;clear hK K)|(refine W_seqD mixed [] (by kernel_rfl) fun K hK=>?_;(try (refine sNa ?_));(repeat refine aI ?_);refine hK _ ?_;clear hK K)|(refine W_regV fun K hK=>?_;(try (refine sNa ?_));(repeat refine aI ?_);refine hK _ ?_;clear hK K)|refine W_skip ?_|(refine W_ret ?_;(refine qG ?_))|(refine W_exit ?_;simp only [thenW,blockW,if_true,reduceCtorEq,if_false,Nat.reduceEqDiff])|(refine W_cond rfl (fun h=>?_) (fun h=>?_) <;> (try simp only [cond_true,cond_false,ne_eq,cB] at h))|refine W_seq ?_))
 ·have hor:=or_low (x:=l.getD i 0) hu h6
  have hsp:=split_shl (x:=l.getD i 0) hu
  have hdv:l.getD i 0 / 2^(32-u)<2^u:=Nat.div_lt_of_lt_mul (by rw [← Nat.pow_add,show 32-u+u=32 by omega];exact hx)
  have hdv2:l.getD i 0 / 2^(32-u)<4294967296:=Nat.lt_of_le_of_lt (Nat.div_le_self _ _) hx
  have hlt:c.getD i 0+l.getD i 0*2^u%4294967296<4294967296:=by
   rw [← hor]
   exact Nat.or_lt_two_pow (n:=32) hc (Nat.mod_lt _ (by omega))
  skip
  have hi1:i+1<(c.set i (c.getD i 0 ||| l.getD i 0*2^u%4294967296)).length:=by rw [List.length_set];omega
  refine ⟨⟨(i+1,(c.set i (c.getD i 0 ||| l.getD i 0*2^u%4294967296)).set (i+1) (l.getD i 0 / 2^(32-u)%4294967296)),by dsimp only;omega,by simpa using h4,(h5.set _ (by rw [hor];exact hlt)).set _ (Nat.mod_lt _ (by omega)),?_,?_⟩,Le_of (by simp only [leE,or_true,true_or,and_true,true_and]) rfl,by dsimp only;omega⟩
  ·dsimp only
   rw [List.getD_eq_getElem?_getD,List.getElem?_set_self hi1,Option.getD_some,Nat.mod_eq_of_lt hdv2]
   exact hdv
  ·dsimp only
   rw [val_take_set hi1,val_take_set (by omega),val_take_succ,hor,Nat.mod_eq_of_lt hdv2,Nat.pow_succ]
   rw [val_take_succ] at h7
   generalize 4294967296^i=P at *
   have e1:P*(l.getD i 0*2^u%4294967296+4294967296*(l.getD i 0 / 2^(32-u)))=P*(l.getD i 0*2^u):=by rw [hsp]
   rw [Nat.add_mul,← h7,Nat.mul_assoc P,Nat.mul_assoc P,← e1,Nat.mul_add,Nat.mul_add]
   omega
 ·have h0:i=l.length:=by omega
  subst h0
  rw [List.take_of_length_le (by omega),List.take_length] at h7
  exact ⟨_,by simp,by simp [u32s_length,h4],rfl,by rw [padL_of h5 h4 h7]⟩
theorem moved_ok (l:List Nat) (u:Nat) (hl:Limbs l) (h1:l.length<549755813888) (hu:u<32):Pure Tryz.prog 267 [cNat l,.int .i64 u] (·=cNat (padL (l.length+1) (val l*2^u))):=(moved_new l u hl h1 hu).pure.mono fun r h=>by
 obtain ⟨rows,rfl,rfl⟩:=h
 rfl
end Go.Proofs.YtjmkfbhecgkbmaaGreat.Vm
namespace Go.Proofs.YtjmkfbhecgkbmaaGreat.Vm
open Go Go.RowKit
set_option maxHeartbeats 1000000 in
theorem bits_ok (l:List Nat) (hl:Limbs l) (h1:l.length<549755813888):Pure Tryz.prog 185 [cNat l] (· = .int .i64 (if val l=0 then 0 else 32*((limbs (val l)).length-1:Nat)+blen ((limbs (val l)).getD ((limbs (val l)).length-1) 0):Nat)):=by
 have h2:=limbs_val_length hl
 have hL:=limbs_limbs (val l)
 (refine pureW Tryz.func185 rfl (rs:=[Go.ResultVar.tmp 2]) rfl (n:=20) rfl ?_;simp only [List.length_cons,List.length_nil,List.replicate,List.cons_append,List.nil_append])
 (refine aNa ?_)
 ((refine W_seqV ?_);intro K hK;(refine sNa ?_))
 (refine ⟨by kernel_rfl,_,.pure rfl (trim_ok' l hl (by omega)),?_⟩;(try (refine sNa ?_)))
 (refine hK _ ?_;clear hK K)
 (repeat' (first | (refine W_seqV fun K hK=>?_;(try (refine sNa ?_));(repeat refine aI ?_);refine hK _ ?_;clear hK K) | refine W_skip ?_ | (refine W_ret ?_;(refine qG ?_)) | (refine W_cond rfl (fun h=>?_) (fun h=>?_) <;> (try simp only [cond_true,cond_false,ne_eq,cB] at h)) | refine W_seq ?_))
 ·have h0:val l=0:=limbs_eq_nil.1 (List.eq_nil_of_length_eq_zero (by omega))
  simp [h0]
 ·have h0:val l≠0:=fun h0=>h (by rw [h0,limbs_zero];rfl)
  have hp:0<(limbs (val l)).length:=by omega
  have hbl:=blen_le (n:=(limbs (val l)).getD ((limbs (val l)).length-1) 0) (k:=32) (hL.getD _)
  ((refine W_regV ?_);intro K hK;(refine sNa ?_))
  ((repeat refine aI ?_);refine ⟨by kernel_rfl,_,.pure rfl (len32_ok _ (hL.getD _)),?_⟩;(try (refine sNa ?_)))
  (refine hK _ ?_;clear hK K)
  refine W_ret ?_
  (refine qG ?_;try exact True.intro)
  rw [if_neg h0,wrap_i64 (x:=32*(((limbs (val l)).length-1:Nat):Int)) (by omega) (by omega),wrap_i64 (by omega) (by omega)]
  congr 1
end Go.Proofs.YtjmkfbhecgkbmaaGreat.Vm
namespace Go.Proofs.YtjmkfbhecgkbmaaGreat.Vm
open Go Go.RowKit
set_option maxHeartbeats 4000000 in
theorem digit_ok (w u v:List Nat) (off:Nat) (hw:Limbs w) (hu:Limbs u) (hv:Limbs v) (hvl:2≤v.length) (hul:u.length=v.length+1) (hoff:off+(v.length+1)≤w.length) (hwl:w.length<549755813888)
  (ha:2147483648≤v.getD (v.length-1) 0) (hlt:val u<4294967296*val v) :
  Mut Tryz.prog 268 179 1 (u32s (put w off u)) off (v.length+1) [.sl (u32s v)] (fun r rows=>r = .int .u32 (val u / val v:Nat)∧rows=u32s (put w off (padL (v.length+1) (val u%val v)))):=by
 obtain ⟨T,q,hq,hor,t1,hd,hT,hg⟩:=digit_facts2 hu hv hvl hul ha hlt
 have a0:=hd.a0;have a1:=hd.a1;have x1:=hd.x1;have z1:=hd.z1
 have y1:=hu.getD (v.length-1)
 have y2:=hu.getD v.length
 have hne:(((v.getD (v.length-1) 0:Nat):Int) != 0)=true:=by rw [bne_iff_ne];omega
 have hq1:T / v.getD (v.length-1) 0<18446744073709551616:=Nat.lt_of_le_of_lt hd.g0 (by omega)
 have hr1:T%v.getD (v.length-1) 0<v.getD (v.length-1) 0:=Nat.mod_lt _ (by omega)
 have pll:∀ c:List Nat,c.length=v.length+1→(put w off c).length=w.length:=fun c hc=>put_length (by omega)
 have hpl:=pll u hul
 (refine mut_of_W Tryz.func268 rfl (rs:=[Go.ResultVar.tmp 4]) rfl (nt:=160) rfl (by decide) ?_;simp only [List.length_cons,List.length_nil,List.replicate,List.cons_append,List.nil_append,List.set,AV.datas,AV.data])
 (refine aNa ?_)
 rw [hor]
 (refine sNa ?_;try exact True.intro)
 refine W_join (fun s'=>∃ g,g<4294967296∧(g=q∨g=q+1)∧Le [0] s' ((fun (a_:AV) (d_:Ob)=>(⟨((.sref 0 off (v.length+1))::(.sl (u32s v))::a_::a_::a_::(.int .i64 v.length)::a_::(.int .u64 g)::a_::a_::a_::a_::a_::a_::a_::a_::a_::a_::a_::a_::a_::a_::a_::a_::a_::a_::a_::a_::a_::a_::a_::a_::a_::a_::a_::a_::a_::a_::a_::a_::a_::a_::a_::a_::a_::a_::a_::a_::a_::a_::a_::a_::a_::a_::a_::a_::a_::a_::a_::a_::a_::a_::a_::a_::a_::a_::a_::a_::a_::a_::a_::a_::a_::a_::a_::a_::a_::a_::a_::a_::a_::a_::a_::a_::a_::a_::a_::a_::a_::a_::a_::a_::a_::a_::a_::a_::a_::a_::a_::a_::a_::a_::a_::a_::a_::a_::a_::a_::a_::a_::a_::a_::a_::a_::a_::a_::a_::a_::a_::a_::a_::a_::a_::a_::a_::a_::a_::a_::a_::a_::a_::a_::a_::a_::a_::a_::a_::a_::a_::a_::a_::a_::a_::a_::a_::a_::a_::a_::a_::a_::a_::a_::a_::a_::a_::a_::a_::a_::a_::a_::[]),((.arr 179 1 true (u32s (put w off u)))::d_::d_::d_::d_::d_::d_::d_::d_::d_::d_::d_::d_::d_::d_::d_::d_::d_::d_::d_::d_::d_::d_::d_::d_::d_::d_::d_::d_::d_::d_::d_::d_::d_::d_::d_::d_::d_::d_::d_::d_::d_::d_::d_::d_::d_::d_::d_::d_::d_::d_::d_::d_::d_::d_::d_::d_::d_::d_::d_::d_::d_::d_::d_::d_::d_::d_::d_::d_::d_::d_::d_::d_::d_::d_::d_::d_::d_::d_::d_::d_::d_::d_::d_::d_::d_::d_::d_::d_::d_::d_::d_::d_::d_::d_::d_::d_::d_::d_::d_::d_::d_::d_::d_::d_::d_::d_::d_::d_::d_::d_::d_::d_::d_::d_::d_::d_::d_::d_::d_::d_::d_::d_::d_::d_::d_::d_::d_::d_::d_::d_::d_::d_::d_::d_::d_::d_::d_::d_::d_::d_::d_::d_::d_::d_::d_::d_::d_::d_::d_::d_::d_::d_::d_::d_::d_::d_::d_::d_::d_::[])⟩:St)) .any .dead)) ?_ ?_
 ·refine W_block (W_loop (fun t:{t:Nat × Nat // t.1*v.getD (v.length-1) 0+t.2=T∧q≤t.1∧t.2<4294967296∧t.1≤4294967297} =>
   ((fun (a_:AV) (d_:Ob)=>(⟨((.sref 0 off (v.length+1))::(.sl (u32s v))::a_::a_::a_::(.int .i64 v.length)::a_::(.int .u64 t.1.1)::(.int .u64 t.1.2)::a_::a_::a_::a_::a_::a_::a_::a_::a_::a_::a_::a_::a_::a_::a_::a_::a_::a_::a_::a_::a_::a_::a_::a_::a_::a_::a_::a_::a_::a_::a_::a_::a_::a_::a_::a_::a_::a_::a_::a_::a_::a_::a_::a_::a_::a_::a_::a_::a_::a_::a_::a_::a_::a_::a_::a_::a_::a_::a_::a_::a_::a_::a_::a_::a_::a_::a_::a_::a_::a_::a_::a_::a_::a_::a_::a_::a_::a_::a_::a_::a_::a_::a_::a_::a_::a_::a_::a_::a_::a_::a_::a_::a_::a_::a_::a_::a_::a_::a_::a_::a_::a_::a_::a_::a_::a_::a_::a_::a_::a_::a_::a_::a_::a_::a_::a_::a_::a_::a_::a_::a_::a_::a_::a_::a_::a_::a_::a_::a_::a_::a_::a_::a_::a_::a_::a_::a_::a_::a_::a_::a_::a_::a_::a_::a_::a_::a_::a_::a_::a_::a_::[]),((.arr 179 1 true (u32s (put w off u)))::d_::d_::d_::d_::d_::d_::d_::d_::d_::d_::d_::d_::d_::d_::d_::d_::d_::d_::d_::d_::d_::d_::d_::d_::d_::d_::d_::d_::d_::d_::d_::d_::d_::d_::d_::d_::d_::d_::d_::d_::d_::d_::d_::d_::d_::d_::d_::d_::d_::d_::d_::d_::d_::d_::d_::d_::d_::d_::d_::d_::d_::d_::d_::d_::d_::d_::d_::d_::d_::d_::d_::d_::d_::d_::d_::d_::d_::d_::d_::d_::d_::d_::d_::d_::d_::d_::d_::d_::d_::d_::d_::d_::d_::d_::d_::d_::d_::d_::d_::d_::d_::d_::d_::d_::d_::d_::d_::d_::d_::d_::d_::d_::d_::d_::d_::d_::d_::d_::d_::d_::d_::d_::d_::d_::d_::d_::d_::d_::d_::d_::d_::d_::d_::d_::d_::d_::d_::d_::d_::d_::d_::d_::d_::d_::d_::d_::d_::d_::d_::d_::d_::d_::d_::d_::d_::d_::d_::d_::d_::[])⟩:St)) .any .dead)) (fun t=>t.1.1)
   ⟨(T / v.getD (v.length-1) 0,T%v.getD (v.length-1) 0),?_,?_,?_,?_⟩ (Le_of ?_ rfl) fun t=>?_)
  ·dsimp only
   rw [Nat.mul_comm]
   exact Nat.div_add_mod _ _
  ·exact digit_start hd
  ·dsimp only;omega
  ·exact hd.g0
  ·simp [leE]
  obtain ⟨⟨g,r⟩,h1,h2,h3,h4⟩:=t
  dsimp only at h1 h2 h3 h4 ⊢
  have g1:g*v.getD (v.length-2) 0<18446744073709551616:=Nat.lt_of_le_of_lt (Nat.mul_le_mul h4 (show v.getD (v.length-2) 0≤4294967295 by omega)) (by omega)
  refine W_seq (W_seq ?_)
  by_cases hgB:g<4294967296
  ·have hz:(((g / 4294967296:Nat):Int) != 0)=false:=by rw [Nat.div_eq_of_lt hgB];rfl
   obtain ⟨U,hU,hor2⟩:∃ U,U=r*4294967296+u.getD (v.length-2) 0∧(r*4294967296 ||| u.getD (v.length-2) 0)=U:=⟨_,rfl,or_add32 z1⟩
   by_cases hc:U<g*v.getD (v.length-2) 0
   ·rw [hU] at hc
    obtain ⟨k1,k2,k3⟩:=digit_step hd h1 h2 (.inr hc)
    have hw:=wrap_u64_pred (n:=g) (by omega) (by omega)
    rw [← hU] at hc
    (refine W_regD mixed [] (by kernel_rfl) fun K hK=>?_;(refine sNaX (And.intro hz (And.intro hor2 hc)) ?_;try exact True.intro))
    (repeat refine aI ?_);refine hK _ ?_;clear hK K
    refine W_ct rfl ?_
    refine W_skip ?_
    simp only [thenW]
    by_cases hr:r+v.getD (v.length-1) 0<4294967296
    ·have hz2:((((r+v.getD (v.length-1) 0) / 4294967296:Nat):Int) != 0)=false:=by rw [Nat.div_eq_of_lt hr];rfl
     refine W_block ?_
     ((refine W_seqV ?_);intro K hK;(refine sNa ?_))
     (refine hK _ ?_;clear hK K)
     ((refine W_seqV ?_);intro K hK;(refine sNa ?_))
     (repeat refine aI ?_);refine hK _ ?_;clear hK K
     (refine W_seqR fun K hK=>?_;(refine sNaX hz2 ?_;try exact True.intro))
     (refine hK _ ?_;clear hK K)
     refine W_cf rfl ?_
     refine W_skip ?_
     simp only [blockW,thenW]
     exact ⟨⟨(g-1,r+v.getD (v.length-1) 0),k3,k1,hr,by dsimp only;omega⟩,Le_of (by simp [leE,hw]) rfl,by dsimp only;omega⟩
    ·have hz2:((((r+v.getD (v.length-1) 0) / 4294967296:Nat):Int) != 0)=true:=by rw [bne_iff_ne];omega
     obtain ⟨k4,k5⟩:=hT _ _ k3 (by omega)
     refine W_block ?_
     ((refine W_seqV ?_);intro K hK;(refine sNa ?_))
     (refine hK _ ?_;clear hK K)
     ((refine W_seqV ?_);intro K hK;(refine sNa ?_))
     (repeat refine aI ?_);refine hK _ ?_;clear hK K
     (refine W_seqR fun K hK=>?_;(refine sNaX hz2 ?_;try exact True.intro))
     (refine hK _ ?_;clear hK K)
     refine W_ct rfl ?_
     refine W_exit ?_
     simp only [blockW,thenW,if_true,reduceCtorEq,if_false,Nat.reduceEqDiff]
     exact ⟨g-1,k4,hg _ _ k4 k3 k5 k1,Le_of (by simp [leE,hw]) rfl⟩
   ·(refine W_regD mixed [] (by kernel_rfl) fun K hK=>?_;(refine sNaX (And.intro hz (And.intro hor2 hc)) ?_;try exact True.intro))
    (repeat refine aI ?_);refine hK _ ?_;clear hK K
    refine W_cf rfl ?_
    refine W_exit ?_
    simp only [blockW,thenW,if_true,reduceCtorEq,if_false,Nat.reduceEqDiff]
    exact ⟨g,hgB,hg _ _ hgB h1 (by omega) h2,Le_of (by simp [leE]) rfl⟩
  ·have hz:(((g / 4294967296:Nat):Int) != 0)=true:=by rw [bne_iff_ne];omega
   obtain ⟨k1,k2,k3⟩:=digit_step hd h1 h2 (.inl (by omega))
   have hw:=wrap_u64_pred (n:=g) (by omega) (by omega)
   (refine W_regD mixed [] (by kernel_rfl) fun K hK=>?_;(refine sNaX hz ?_;try exact True.intro))
   (refine hK _ ?_;clear hK K)
   refine W_ct rfl ?_
   refine W_skip ?_
   simp only [thenW]
   by_cases hr:r+v.getD (v.length-1) 0<4294967296
   ·have hz2:((((r+v.getD (v.length-1) 0) / 4294967296:Nat):Int) != 0)=false:=by rw [Nat.div_eq_of_lt hr];rfl
    refine W_block ?_
    ((refine W_seqV ?_);intro K hK;(refine sNa ?_))
    (refine hK _ ?_;clear hK K)
    ((refine W_seqV ?_);intro K hK;(refine sNa ?_))
    (repeat refine aI ?_);refine hK _ ?_;clear hK K
    (refine W_seqR fun K hK=>?_;(refine sNaX hz2 ?_;try exact True.intro))
    (refine hK _ ?_;clear hK K)
    refine W_cf rfl ?_
    refine W_skip ?_
    simp only [blockW,thenW]
    exact ⟨⟨(g-1,r+v.getD (v.length-1) 0),k3,k1,hr,by dsimp only;omega⟩,Le_of (by simp [leE,hw]) rfl,by dsimp only;omega⟩
   ·have hz2:((((r+v.getD (v.length-1) 0) / 4294967296:Nat):Int) != 0)=true:=by rw [bne_iff_ne];omega
    obtain ⟨k4,k5⟩:=hT _ _ k3 (by omega)
    refine W_block ?_
    ((refine W_seqV ?_);intro K hK;(refine sNa ?_))
    (refine hK _ ?_;clear hK K)
    ((refine W_seqV ?_);intro K hK;(refine sNa ?_))
    (repeat refine aI ?_);refine hK _ ?_;clear hK K
    (refine W_seqR fun K hK=>?_;(refine sNaX hz2 ?_;try exact True.intro))
    (refine hK _ ?_;clear hK K)
    refine W_ct rfl ?_
    refine W_exit ?_
    simp only [blockW,thenW,if_true,reduceCtorEq,if_false,Nat.reduceEqDiff]
    exact ⟨g-1,k4,hg _ _ k4 k3 k5 k1,Le_of (by simp [leE,hw]) rfl⟩
 rintro s' ⟨g,hgl,hgq,hle⟩
 refine W.le ?_ hle
 clear hle hT hg s'
 have hvp:0<val v:=by
  have h3:=val_take_succ v (v.length-1)
  rw [show v.length-1+1=v.length by omega,List.take_length] at h3
  have h4:0<4294967296^(v.length-1)*v.getD (v.length-1) 0:=Nat.mul_pos (Nat.pow_pos (by omega)) (by omega)
  omega
 ((refine W_seqV ?_);intro K hK;(refine sNa ?_))
 (refine hK _ ?_;clear hK K)
 refine W_join (fun s'=>∃ c cy b,c.length=v.length+1∧Limbs c∧cy<4294967296∧b<2∧c.getD v.length 0=u.getD v.length 0∧val (c.take v.length)+g*val v=val (u.take v.length)+4294967296^v.length*(cy+b)∧Le [0] s' ((fun (a_:AV) (d_:Ob)=>(⟨((.sref 0 off (v.length+1))::(.sl (u32s v))::a_::a_::a_::(.int .i64 v.length)::a_::(.int .u64 g)::a_::(.int .u32 b)::(.int .u64 cy)::a_::a_::a_::a_::a_::a_::a_::a_::a_::a_::a_::a_::a_::a_::a_::a_::a_::a_::a_::a_::a_::a_::a_::a_::a_::a_::a_::a_::a_::a_::a_::a_::a_::a_::a_::a_::a_::a_::a_::a_::a_::a_::a_::a_::a_::a_::a_::a_::a_::a_::a_::a_::a_::a_::a_::a_::a_::a_::a_::a_::a_::a_::a_::a_::a_::a_::a_::a_::a_::a_::a_::a_::a_::a_::a_::a_::a_::a_::a_::a_::a_::a_::a_::a_::a_::a_::a_::a_::a_::a_::a_::a_::a_::a_::a_::a_::a_::a_::a_::a_::a_::a_::a_::a_::a_::a_::a_::a_::a_::a_::a_::a_::a_::a_::a_::a_::a_::a_::a_::a_::a_::a_::a_::a_::a_::a_::a_::a_::a_::a_::a_::a_::a_::a_::a_::a_::a_::a_::a_::a_::a_::a_::a_::a_::a_::a_::a_::a_::a_::[]),((.arr 179 1 true (u32s (put w off c)))::d_::d_::d_::d_::d_::d_::d_::d_::d_::d_::d_::d_::d_::d_::d_::d_::d_::d_::d_::d_::d_::d_::d_::d_::d_::d_::d_::d_::d_::d_::d_::d_::d_::d_::d_::d_::d_::d_::d_::d_::d_::d_::d_::d_::d_::d_::d_::d_::d_::d_::d_::d_::d_::d_::d_::d_::d_::d_::d_::d_::d_::d_::d_::d_::d_::d_::d_::d_::d_::d_::d_::d_::d_::d_::d_::d_::d_::d_::d_::d_::d_::d_::d_::d_::d_::d_::d_::d_::d_::d_::d_::d_::d_::d_::d_::d_::d_::d_::d_::d_::d_::d_::d_::d_::d_::d_::d_::d_::d_::d_::d_::d_::d_::d_::d_::d_::d_::d_::d_::d_::d_::d_::d_::d_::d_::d_::d_::d_::d_::d_::d_::d_::d_::d_::d_::d_::d_::d_::d_::d_::d_::d_::d_::d_::d_::d_::d_::d_::d_::d_::d_::d_::d_::d_::d_::d_::d_::d_::d_::[])⟩:St)) .any .dead)) ?_ ?_
 ·refine W_seq ?_
  (refine W_regV fun K hK=>?_;(refine sNa ?_;try exact True.intro))
  (refine hK _ ?_;clear hK K)
  refine W_block (W_loop (fun t:{t:Nat × List Nat × Nat × Nat // t.1≤v.length∧t.2.1.length=v.length+1∧Limbs t.2.1∧t.2.2.1<4294967296∧t.2.2.2<2∧t.2.1.drop t.1=u.drop t.1∧val (t.2.1.take t.1)+g*val (v.take t.1)=val (u.take t.1)+4294967296^t.1*(t.2.2.1+t.2.2.2)} =>
   ((fun (a_:AV) (d_:Ob)=>(⟨((.sref 0 off (v.length+1))::(.sl (u32s v))::a_::a_::a_::(.int .i64 v.length)::a_::(.int .u64 g)::a_::(.int .u32 t.1.2.2.2)::(.int .u64 t.1.2.2.1)::a_::a_::a_::a_::a_::a_::a_::a_::a_::a_::a_::a_::a_::a_::a_::a_::a_::a_::a_::a_::a_::a_::a_::a_::a_::a_::a_::a_::a_::a_::a_::a_::a_::a_::a_::a_::a_::a_::a_::a_::a_::a_::a_::a_::a_::a_::a_::a_::a_::a_::a_::a_::a_::a_::a_::a_::a_::a_::a_::a_::a_::a_::a_::a_::a_::a_::a_::a_::a_::a_::a_::(.int .i64 v.length)::(.int .i64 t.1.1)::a_::a_::a_::a_::a_::a_::a_::a_::a_::a_::a_::a_::a_::a_::a_::a_::a_::a_::a_::a_::a_::a_::a_::a_::a_::a_::a_::a_::a_::a_::a_::a_::a_::a_::a_::a_::a_::a_::a_::a_::a_::a_::a_::a_::a_::a_::a_::a_::a_::a_::a_::a_::a_::a_::a_::a_::a_::a_::a_::a_::a_::a_::a_::a_::a_::a_::a_::a_::a_::a_::a_::a_::a_::a_::a_::a_::[]),((.arr 179 1 true (u32s (put w off t.1.2.1)))::d_::d_::d_::d_::d_::d_::d_::d_::d_::d_::d_::d_::d_::d_::d_::d_::d_::d_::d_::d_::d_::d_::d_::d_::d_::d_::d_::d_::d_::d_::d_::d_::d_::d_::d_::d_::d_::d_::d_::d_::d_::d_::d_::d_::d_::d_::d_::d_::d_::d_::d_::d_::d_::d_::d_::d_::d_::d_::d_::d_::d_::d_::d_::d_::d_::d_::d_::d_::d_::d_::d_::d_::d_::d_::d_::d_::d_::d_::d_::d_::d_::d_::d_::d_::d_::d_::d_::d_::d_::d_::d_::d_::d_::d_::d_::d_::d_::d_::d_::d_::d_::d_::d_::d_::d_::d_::d_::d_::d_::d_::d_::d_::d_::d_::d_::d_::d_::d_::d_::d_::d_::d_::d_::d_::d_::d_::d_::d_::d_::d_::d_::d_::d_::d_::d_::d_::d_::d_::d_::d_::d_::d_::d_::d_::d_::d_::d_::d_::d_::d_::d_::d_::d_::d_::d_::d_::d_::d_::d_::[])⟩:St)) .any .dead)) (fun t=>v.length-t.1.1)
   ⟨(0,u,0,0),by simp,hul,hu,by simp,by simp,rfl,by simp [val]⟩ (Le_of (by simp [leE]) rfl) fun t=>?_)
  obtain ⟨⟨i,c,cy,b⟩,h1,h2,h3,h4,h5,h6,h7⟩:=t
  dsimp only at h1 h2 h3 h4 h5 h6 h7 ⊢
  have hpl2:=pll c h2
  have hvi:=hv.getD i
  have hci:=h3.getD i
  have hgv:g*v.getD i 0≤4294967295*4294967295:=Nat.mul_le_mul (by omega) (by omega)
  have hgt:g*v.getD i 0+cy<18446744073709551616:=by omega
  have hce:=getD_of_drop h6
  (repeat' (first | refine W_block ?_ | (refine W_seqV fun K hK=>?_;(try (refine sNa ?_));(repeat refine aI ?_);refine hK _ ?_;clear hK K) | refine W_skip ?_ | (refine W_exit ?_;simp only [thenW,blockW,if_true,reduceCtorEq,if_false,Nat.reduceEqDiff]) | (refine W_cond rfl (fun h=>?_) (fun h=>?_) <;> (try simp only [cond_true,cond_false,ne_eq,cB] at h)) | refine W_seq ?_))
  ·((refine W_regV ?_);intro K hK;(refine sNa ?_))
   ((repeat refine aI ?_);refine ⟨by kernel_rfl,_,.pure rfl (sub32_ok (c.getD i 0) ((g*v.getD i 0+cy)%4294967296) b hci (Nat.mod_lt _ (by omega)) h5),?_⟩;(try (refine sNa ?_));(repeat refine aI ?_))
   (refine hK _ ?_;clear hK K)
   (repeat' (refine W_regV fun K hK=>?_;(try (refine sNa ?_));refine hK _ ?_;clear hK K))
   simp only [thenW]
   have hrel:=sub32_rel hci (y:=(g*v.getD i 0+cy)%4294967296) (Nat.mod_lt _ (by omega)) h5
   have hlt2:=sub32_lt (x:=c.getD i 0) (y:=(g*v.getD i 0+cy)%4294967296) (b:=b)
   have hslt:(c.getD i 0+2*4294967296-(g*v.getD i 0+cy)%4294967296-b)%4294967296<4294967296:=Nat.mod_lt _ (by omega)
   have hcd:(g*v.getD i 0+cy) / 4294967296<4294967296:=by omega
   have hdm:(g*v.getD i 0+cy)%4294967296+4294967296*((g*v.getD i 0+cy) / 4294967296)=g*v.getD i 0+cy:=Nat.mod_add_div _ _
   refine ⟨⟨(i+1,c.set i ((c.getD i 0+2*4294967296-(g*v.getD i 0+cy)%4294967296-b)%4294967296),(g*v.getD i 0+cy) / 4294967296,if c.getD i 0<(g*v.getD i 0+cy)%4294967296+b then 1 else 0),by dsimp only;omega,by simpa using h2,h3.set _ hslt,hcd,hlt2,drop_set_next h6 _,?_⟩,Le_of (by simp [leE]) rfl,by dsimp only;omega⟩
   dsimp only
   rw [val_take_set (by omega),val_take_succ,val_take_succ,Nat.pow_succ,← hce]
   exact msub_round h7 hdm hrel
  ·obtain rfl:i=v.length:=by omega
   rw [List.take_length] at h7
   exact ⟨c,cy,b,h2,h3,h4,h5,hce,h7,Le_of (by simp [leE]) rfl⟩
 rintro s' ⟨c,cy,b,h2,h3,h4,h5,hce,h7,hle⟩
 refine W.le ?_ hle
 clear hle s'
 have hpl2:=pll c h2
 have hci:=h3.getD v.length
 have hn:v.length<c.length:=by omega
 obtain ⟨b2,hb2⟩:∃ b2,b2=if c.getD v.length 0<cy%4294967296+b then 1 else 0:=⟨_,rfl⟩
 obtain ⟨x,hx⟩:∃ x,x=(c.getD v.length 0+2*4294967296-cy%4294967296-b)%4294967296:=⟨_,rfl⟩
 have hs:=sub32_ok (c.getD v.length 0) (cy%4294967296) b hci (Nat.mod_lt _ (by omega)) h5
 have hrel:=sub32_rel hci (y:=cy%4294967296) (Nat.mod_lt _ (by omega)) h5
 have hlt2:=sub32_lt (x:=c.getD v.length 0) (y:=cy%4294967296) (b:=b)
 have hxl:x<4294967296:=by rw [hx];exact Nat.mod_lt _ (by omega)
 rw [← hb2,← hx] at hs hrel
 rw [← hb2] at hlt2
 clear hb2 hx
 rw [Nat.mod_eq_of_lt h4] at hrel
 have hC:val (c.set v.length x)+g*val v=val u+4294967296^(v.length+1)*b2:=by
  have e1:=val_take_set hn x
  rw [List.take_of_length_le (by simp;omega)] at e1
  have e2:=val_top (l:=u) (n:=v.length) hul
  rw [e1,e2,Nat.pow_succ,← hce]
  have e3:4294967296^v.length*(x+cy+b)=4294967296^v.length*(c.getD v.length 0+4294967296*b2):=by rw [hrel]
  simp only [Nat.mul_add] at e3 h7
  rw [Nat.mul_assoc]
  omega
 have hl0:(c.set v.length x).length=v.length+1:=by simpa using h2
 have hL0:=h3.set v.length hxl
 have hlt0:val (c.set v.length x)<4294967296^(v.length+1):=by
  have:=val_lt hL0
  rwa [hl0] at this
 have hvlt:val v<4294967296^(v.length+1):=Nat.lt_of_lt_of_le (val_lt hv) (Nat.pow_le_pow_right (by omega) (by omega))
 obtain ⟨hd0,hd1⟩:=digit_left hlt0 hlt2 hC hq hvp (Nat.le_of_lt hvlt) hgq
 have hmod:=Nat.mod_lt (val u) hvp
 have hqB:=hd.q1
 rw [hq] at hqB
 ((refine W_seqV ?_);intro K hK;(refine sNa ?_))
 ((repeat refine aI ?_);refine ⟨by kernel_rfl,_,.pure rfl (hs),?_⟩;(try (refine sNa ?_));(repeat refine aI ?_))
 (refine hK _ ?_;clear hK K)
 obtain ⟨C,hCe⟩:∃ C,C=c.set v.length x:=⟨_,rfl⟩
 rw [← hCe] at hd0 hd1 hlt0 hL0 hl0 ⊢
 clear hCe hC hrel hs h7 hce hpl2 hci hn h2 h3 hor hgq
 have hpl2:=pll C hl0
 rcases (show b2=0∨b2=1 by omega) with rfl | rfl
 ·obtain ⟨e1,e2⟩:=hd0 rfl
  have hz:(((0:Nat):Int) == 1)=false:=rfl
  refine W_seq ?_
  (refine W_seqR fun K hK=>?_;(refine sNaX hz ?_;try exact True.intro))
  (refine hK _ ?_;clear hK K)
  refine W_cf rfl ?_
  refine W_skip ?_
  simp only [thenW]
  (repeat' (first | (refine W_seqV fun K hK=>?_;(try (refine sNa ?_));refine hK _ ?_;clear hK K) | (refine W_ret ?_;(refine qG ?_))))
  refine ⟨_,rfl,rfl,?_,?_⟩
  ·rw [Nat.mod_eq_of_lt hgl,e1]
  ·rw [← e2,← hl0,padL_eq hL0]
 ·obtain ⟨e1,e2⟩:=hd1 rfl
  have hz:(((1:Nat):Int) == 1)=true:=rfl
  refine W_seq ?_
  (refine W_seqR fun K hK=>?_;(refine sNaX hz ?_;try exact True.intro))
  (refine hK _ ?_;clear hK K)
  refine W_ct rfl ?_
  (repeat' (first | refine W_block ?_ | (refine W_seqV fun K hK=>?_;(try (refine sNa ?_));refine hK _ ?_;clear hK K) | refine W_seq ?_))
  have hw:=wrap_u64_pred (n:=g) (by omega) (by omega)
  have hge:g-1=val u / val v:=by omega
  refine W_loop (fun t:{t:Nat × List Nat × Nat // t.1≤v.length∧t.2.1.length=v.length+1∧Limbs t.2.1∧t.2.2<2∧t.2.1.drop t.1=C.drop t.1∧val (t.2.1.take t.1)+4294967296^t.1*t.2.2=val (C.take t.1)+val (v.take t.1)} =>
   ((fun (a_:AV) (d_:Ob)=>(⟨((.sref 0 off (v.length+1))::(.sl (u32s v))::a_::a_::a_::(.int .i64 v.length)::a_::(.int .u64 ((g-1:Nat):Int))::a_::a_::a_::a_::a_::(.int .u32 t.1.2.2)::a_::a_::a_::a_::a_::a_::a_::a_::a_::a_::a_::a_::a_::a_::a_::a_::a_::a_::a_::a_::a_::a_::a_::a_::a_::a_::a_::a_::a_::a_::a_::a_::a_::a_::a_::a_::a_::a_::a_::a_::a_::a_::a_::a_::a_::a_::a_::a_::a_::a_::a_::a_::a_::a_::a_::a_::a_::a_::a_::a_::a_::a_::a_::a_::a_::a_::a_::a_::a_::a_::a_::a_::a_::a_::a_::a_::a_::a_::a_::a_::a_::a_::a_::a_::a_::a_::a_::a_::a_::a_::a_::a_::a_::a_::a_::a_::a_::a_::a_::a_::a_::a_::a_::a_::a_::a_::a_::a_::a_::a_::a_::a_::a_::a_::a_::a_::(.int .i64 v.length)::(.int .i64 t.1.1)::a_::a_::a_::a_::a_::a_::a_::a_::a_::a_::a_::a_::a_::a_::a_::a_::a_::a_::a_::a_::a_::a_::a_::a_::a_::a_::a_::a_::[]),((.arr 179 1 true (u32s (put w off t.1.2.1)))::d_::d_::d_::d_::d_::d_::d_::d_::d_::d_::d_::d_::d_::d_::d_::d_::d_::d_::d_::d_::d_::d_::d_::d_::d_::d_::d_::d_::d_::d_::d_::d_::d_::d_::d_::d_::d_::d_::d_::d_::d_::d_::d_::d_::d_::d_::d_::d_::d_::d_::d_::d_::d_::d_::d_::d_::d_::d_::d_::d_::d_::d_::d_::d_::d_::d_::d_::d_::d_::d_::d_::d_::d_::d_::d_::d_::d_::d_::d_::d_::d_::d_::d_::d_::d_::d_::d_::d_::d_::d_::d_::d_::d_::d_::d_::d_::d_::d_::d_::d_::d_::d_::d_::d_::d_::d_::d_::d_::d_::d_::d_::d_::d_::d_::d_::d_::d_::d_::d_::d_::d_::d_::d_::d_::d_::d_::d_::d_::d_::d_::d_::d_::d_::d_::d_::d_::d_::d_::d_::d_::d_::d_::d_::d_::d_::d_::d_::d_::d_::d_::d_::d_::d_::d_::d_::d_::d_::d_::d_::[])⟩:St)) .any .dead)) (fun t=>v.length-t.1.1)
   ⟨(0,C,0),by simp,hl0,hL0,by simp,rfl,by simp [val]⟩ (Le_of (by simp [leE,hw]) rfl) fun t=>?_
  obtain ⟨⟨i,d,k⟩,h1,h2,h3,h5,h6,h7⟩:=t
  dsimp only at h1 h2 h3 h5 h6 h7 ⊢
  have hpl3:=pll d h2
  have hvi:=hv.getD i
  have hdi:=h3.getD i
  have hce:=getD_of_drop h6
  (repeat' (first|refine W_block ?_|(refine W_seqV fun K hK=>?_;(try (refine sNa ?_));refine hK _ ?_;clear hK K)|(refine W_regV fun K hK=>?_;(try (refine sNa ?_));(repeat refine aI ?_);refine hK _ ?_;clear hK K)|refine W_skip ?_|(refine W_ret ?_;(refine qG ?_))|(refine W_exit ?_;simp only [thenW,blockW,if_true,reduceCtorEq,if_false,Nat.reduceEqDiff])|(refine W_cond rfl (fun h=>?_) (fun h=>?_) <;> (try simp only [cond_true,cond_false,ne_eq,cB] at h))|refine W_seq ?_))
  ·(refine W_regD mixed [] (by kernel_rfl) fun K hK=>?_;(refine sNa ?_;try exact True.intro))
   ((repeat refine aI ?_);refine ⟨by kernel_rfl,_,.pure rfl (add32_ok (d.getD i 0) (v.getD i 0) k hdi hvi (by omega)),?_⟩;(try (refine sNa ?_));(repeat refine aI ?_))
   (refine hK _ ?_;clear hK K)
   (repeat' (refine W_regV fun K hK=>?_;(try (refine sNa ?_));refine hK _ ?_;clear hK K))
   simp only [thenW]
   refine ⟨⟨(i+1,d.set i ((d.getD i 0+v.getD i 0+k)%4294967296),(d.getD i 0+v.getD i 0+k) / 4294967296),by dsimp only;omega,by simpa using h2,h3.set _ (Nat.mod_lt _ (by omega)),by dsimp only;omega,drop_set_next h6 _,?_⟩,Le_of (by simp [leE]) rfl,by dsimp only;omega⟩
   dsimp only
   rw [val_take_set (by omega),val_take_succ,val_take_succ,Nat.pow_succ,← hce]
   exact add_round h7 (by omega)
  ·obtain rfl:i=v.length:=by omega
   rw [List.take_length] at h7
   skip
   refine ⟨_,rfl,rfl,?_,?_⟩
   ·rw [Nat.mod_eq_of_lt (by omega),hge]
   ·have e1:=val_take_set (l:=d) (i:=v.length) (by omega) ((d.getD v.length 0+k)%4294967296)
    rw [List.take_of_length_le (by simp;omega)] at e1
    have e2:=val_top (l:=C) (n:=v.length) hl0
    have e3:(d.set v.length ((d.getD v.length 0+k)%4294967296)).length=v.length+1:=by simpa using h2
    have e4:=h3.set v.length (x:=(d.getD v.length 0+k)%4294967296) (Nat.mod_lt _ (by omega))
    have e5:=val_lt e4
    rw [e3] at e5
    have e6:(d.getD v.length 0+k)%4294967296+4294967296*((d.getD v.length 0+k) / 4294967296)=d.getD v.length 0+k:=Nat.mod_add_div _ _
    have e7:val (d.set v.length ((d.getD v.length 0+k)%4294967296))=val u%val v:=by
     refine digit_back (P:=4294967296^(v.length+1)) (k:=(d.getD v.length 0+k) / 4294967296) ?_ e5 (Nat.lt_trans hmod hvlt)
     have e8:4294967296^v.length*((d.getD v.length 0+k)%4294967296+4294967296*((d.getD v.length 0+k) / 4294967296))=4294967296^v.length*(d.getD v.length 0+k):=by rw [e6]
     rw [e1,Nat.pow_succ,Nat.mul_assoc]
     simp only [Nat.mul_add] at e8
     rw [← hce] at e2
     omega
    rw [← e7,← padL_of e4 e3 rfl]
end Go.Proofs.YtjmkfbhecgkbmaaGreat.Vm
namespace Go.Proofs.YtjmkfbhecgkbmaaGreat.Vm
open Go
theorem padL_limbs (n v:Nat):Limbs (padL n v):=(limbs_limbs v).append (Limbs.rep _)
theorem padL_val (n v:Nat):val (padL n v)=v:=by
 unfold padL
 rw [val_append,val_zeros,val_limbs];simp
theorem padL_length {n v:Nat} (h:v<4294967296^n):(padL n v).length=n:=by
 have:=limbs_length_le h
 simp only [padL,List.length_append,List.length_replicate]
 omega
theorem padL_take {n m v:Nat} (h:v<4294967296^n) (hm:n≤m):(padL m v).take n=padL n v:=by
 have:=limbs_length_le h
 simp only [padL]
 rw [List.take_append,List.take_of_length_le this,List.take_replicate,Nat.min_eq_left (by omega)]
theorem norm_facts {b:List Nat} {n:Nat} (hb:Limbs b) (hl:b.length=n+1) (ht:b.getD n 0≠0) {up:Nat} (hup:up=32-blen (b.getD n 0)) :
  up<32∧val b*2^up<4294967296^(n+1)∧2147483648≤(padL (n+1) (val b*2^up)).getD n 0:=by
 have h1:=blen_le (n:=b.getD n 0) (k:=32) (hb.getD n)
 obtain ⟨h2,h3⟩:=blen_spec (b.getD n 0)
 have h4:blen (b.getD n 0)≠0:=by
  intro h5;rw [h5] at h2;simp only [Nat.pow_zero] at h2;omega
 have h5:=h3.resolve_left h4
 have e1:=val_top (l:=b) (n:=n) hl
 have e2:val (b.take n)<4294967296^n:=by
  have:=val_lt (hb.take n);rwa [List.length_take,Nat.min_eq_left (by omega)] at this
 have hP:0<4294967296^n:=Nat.pow_pos (by omega)
 have hU:0<2^up:=Nat.pow_pos (by omega)
 have hup2:up<32:=by omega
 have e3:2^blen (b.getD n 0)*2^up=4294967296:=by rw [← Nat.pow_add,show blen (b.getD n 0)+up=32 by omega]
 have e4:2^(blen (b.getD n 0)-1)*2^up=2147483648:=by rw [← Nat.pow_add,show blen (b.getD n 0)-1+up=31 by omega]
 have hlt:val b*2^up<4294967296^(n+1):=by
  have h6:val b<4294967296^n*(b.getD n 0+1):=by rw [e1,Nat.mul_add,Nat.mul_one];omega
  have h7:4294967296^n*(b.getD n 0+1)≤4294967296^n*2^blen (b.getD n 0):=Nat.mul_le_mul_left _ (by omega)
  have h8:val b*2^up<4294967296^n*2^blen (b.getD n 0)*2^up:=Nat.mul_lt_mul_of_pos_right (by omega) hU
  rw [Nat.mul_assoc,e3] at h8
  rw [Nat.pow_succ]
  exact h8
 refine ⟨hup2,hlt,?_⟩
 have hg:4294967296^n*2147483648≤val b*2^up:=by
  have h6:4294967296^n*2^(blen (b.getD n 0)-1)≤val b:=by
   have:4294967296^n*2^(blen (b.getD n 0)-1)≤4294967296^n*b.getD n 0:=Nat.mul_le_mul_left _ h5
   omega
  have h7:=Nat.mul_le_mul_right (2^up) h6
  rw [Nat.mul_assoc,e4] at h7
  exact h7
 have f1:=val_top (l:=padL (n+1) (val b*2^up)) (n:=n) (padL_length hlt)
 rw [padL_val] at f1
 have f2:val ((padL (n+1) (val b*2^up)).take n)<4294967296^n:=by
  have:=val_lt ((padL_limbs (n+1) (val b*2^up)).take n);rwa [List.length_take,padL_length hlt,Nat.min_eq_left (by omega)] at this
 refine Nat.le_of_not_lt fun hh=>?_
 have h8:4294967296^n*((padL (n+1) (val b*2^up)).getD n 0+1)≤4294967296^n*2147483648:=Nat.mul_le_mul_left _ (by omega)
 rw [Nat.mul_add,Nat.mul_one] at h8
 omega
theorem val_drop_split (l:List Nat) (k:Nat) (h:k≤l.length):val l=val (l.take k)+4294967296^k*val (l.drop k):=by
 conv=>lhs;rw [← List.take_append_drop k l]
 rw [val_append,List.length_take,Nat.min_eq_left h]
theorem long_start {u:List Nat} {m n up V A:Nat} (hl:m≤u.length) (hu:val u=A*2^up) (hA:A<4294967296^(m+n)) (hV:4294967296^n*2^up≤V):val (u.drop m)<V:=by
 have h1:=val_drop_split u m hl
 have hU:0<2^up:=Nat.pow_pos (by omega)
 have h2:A*2^up<4294967296^(m+n)*2^up:=Nat.mul_lt_mul_of_pos_right hA hU
 rw [Nat.pow_add,Nat.mul_assoc] at h2
 refine Nat.lt_of_lt_of_le ?_ hV
 refine Nat.lt_of_mul_lt_mul_left (a:=4294967296^m) ?_
 omega
theorem long_win {u:List Nat} {k n V:Nat} (hl:k+n+1≤u.length) (hVB:V<4294967296^n) (hu:Limbs u) (h:val (u.drop (k+1))<V) :
  val (u.drop k)=val ((u.drop k).take (n+1))∧val ((u.drop k).take (n+1))<4294967296*V∧val (u.drop (k+n+1))=0:=by
 have h1:=drop_getD (l:=u) (i:=k) (by omega)
 have h2:=val_drop_split (u.drop (k+1)) n (by simp;omega)
 rw [List.drop_drop,show k+1+n=k+n+1 by omega] at h2
 have h3:val (u.drop (k+n+1))=0:=by
  cases hz:val (u.drop (k+n+1)) with
  | zero=>rfl
  | succ z =>
   rw [hz] at h2
   have:4294967296^n*1≤4294967296^n*(z+1):=Nat.mul_le_mul_left _ (by omega)
   omega
 rw [h3,Nat.mul_zero] at h2
 have h2:val (u.drop (k+1))=val ((u.drop (k+1)).take n):=h2
 have hk:=hu.getD k
 refine ⟨?_,?_,h3⟩
 ·rw [h1,List.take_succ_cons,val,val,h2]
 ·rw [h1,List.take_succ_cons,val,← h2]
  omega
theorem val_put (w c:List Nat) (off:Nat) (h:off≤w.length):val (put w off c)=val (w.take off)+4294967296^off*(val c+4294967296^c.length*val (w.drop (off+c.length))):=by
 have h1:(w.take off).length=off:=by rw [List.length_take];omega
 have h2:put w off c=w.take off++(c++w.drop (off+c.length)):=List.append_assoc _ _ _
 rw [h2,val_append,val_append,h1]
theorem long_alg {P B r x w V uk Q U0:Nat} (hdm:V*x+r=w) (hinv:uk+P*w+P*B*Q*V=U0):uk+P*r+P*(x+B*Q)*V=U0:=by
 rw [← hinv,← hdm]
 simp only [Nat.mul_add,Nat.add_mul]
 rw [Nat.mul_comm V x,Nat.mul_assoc P x V,Nat.mul_assoc P B Q]
 omega
theorem long_next {u q:List Nat} {k n V U0:Nat} (hl:k+n+1≤u.length) (hq:k<q.length) (hVB:V<4294967296^n) (hV:0<V) (hu:Limbs u) (h:val (u.drop (k+1))<V) (hinv:val u+4294967296^(k+1)*val (q.drop (k+1))*V=U0) :
  val ((put u k (padL (n+1) (val ((u.drop k).take (n+1))%V))).drop k)<V ∧
  val (put u k (padL (n+1) (val ((u.drop k).take (n+1))%V)))+4294967296^k*val ((q.set k (val ((u.drop k).take (n+1)) / V)).drop k)*V=U0:=by
 obtain ⟨h1,h2,h3⟩:=long_win hl hVB hu h
 have hr:val ((u.drop k).take (n+1))%V<V:=Nat.mod_lt _ hV
 have hdm:=Nat.div_add_mod (val ((u.drop k).take (n+1))) V
 have hlen:(padL (n+1) (val ((u.drop k).take (n+1))%V)).length=n+1:=padL_length (Nat.lt_trans hr (Nat.lt_of_lt_of_le hVB (Nat.pow_le_pow_right (by omega) (by omega))))
 have hp:=val_put u (padL (n+1) (val ((u.drop k).take (n+1))%V)) k (by omega)
 rw [hlen,show k+(n+1)=k+n+1 by omega,h3,Nat.mul_zero,Nat.add_zero,padL_val] at hp
 have hs:=val_drop_split u k (by omega)
 rw [h1] at hs
 have hd:val ((put u k (padL (n+1) (val ((u.drop k).take (n+1))%V))).drop k)=val ((u.drop k).take (n+1))%V:=by
  have h5:(u.take k).length=k:=by rw [List.length_take];omega
  have h6:∀ c:List Nat,(put u k c).drop k=c++u.drop (k+c.length):=fun c=>by
   unfold put
   rw [List.append_assoc,List.drop_append_of_le_length (Nat.le_of_eq h5.symm),List.drop_eq_nil_of_le (Nat.le_of_eq h5),List.nil_append]
  rw [h6,val_append,padL_val,hlen,show k+(n+1)=k+n+1 by omega,h3,Nat.mul_zero,Nat.add_zero]
 refine ⟨by rw [hd];exact hr,?_⟩
 rw [hs,Nat.pow_succ] at hinv
 rw [hp,drop_set_self hq,val]
 exact long_alg hdm hinv
theorem long_end {u q:List Nat} {A b up:Nat} (hinv:val u+4294967296^0*val (q.drop 0)*(b*2^up)=A*2^up) (h:val (u.drop 0)<b*2^up) (hb:0<b):val q=A / b∧val u=(A%b)*2^up:=by
 simp only [List.drop_zero,Nat.pow_zero,Nat.one_mul] at hinv h
 have hU:0<2^up:=Nat.pow_pos (by omega)
 have hV:0<b*2^up:=Nat.mul_pos hb hU
 have e1:A*2^up / (b*2^up)=val q:=by
  rw [← hinv,Nat.add_mul_div_right _ _ hV,Nat.div_eq_of_lt h,Nat.zero_add]
 have e2:A*2^up%(b*2^up)=val u:=by
  rw [← hinv,Nat.add_mul_mod_self_right,Nat.mod_eq_of_lt h]
 rw [Nat.mul_div_mul_right _ _ hU] at e1
 rw [Nat.mul_mod_mul_right] at e2
 exact ⟨e1.symm,e2.symm⟩
theorem shr_or {x y u:Nat} (hx:x<4294967296) (hu:u<32):(x / 2^u ||| y*2^(32-u)%4294967296)=x / 2^u+(y%2^u)*2^(32-u):=by
 have h1:y*2^(32-u)%4294967296=(y%2^u)*2^(32-u):=by
  rw [show (4294967296:Nat)=2^u*2^(32-u) by rw [← Nat.pow_add,show u+(32-u)=32 by omega],Nat.mul_mod_mul_right]
 have h2:x / 2^u<2^(32-u):=Nat.div_lt_of_lt_mul (by rw [← Nat.pow_add,show u+(32-u)=32 by omega];exact hx)
 rw [h1,Nat.or_comm,or_add h2,Nat.add_comm]
theorem shr_round {R U P x y u:Nat} {lo:Nat} (h:R*2^u+lo=U+P*(x%2^u)) (hu:u<32):(R+P*(x / 2^u+(y%2^u)*2^(32-u)))*2^u+lo=(U+P*x)+P*4294967296*(y%2^u):=by
 have h1:(y%2^u)*2^(32-u)*2^u=4294967296*(y%2^u):=by
  rw [Nat.mul_assoc,← Nat.pow_add,show 32-u+u=32 by omega,Nat.mul_comm]
 have h2:=Nat.div_add_mod x (2^u)
 have h3:P*(x / 2^u+(y%2^u)*2^(32-u))*2^u=P*(2^u*(x / 2^u))+P*4294967296*(y%2^u):=by
  rw [Nat.mul_assoc,Nat.add_mul,h1,Nat.mul_add,Nat.mul_comm (x / 2^u),← Nat.mul_assoc P 4294967296]
 have h4:P*x=P*(2^u*(x / 2^u))+P*(x%2^u):=by rw [← Nat.mul_add,h2]
 rw [Nat.add_mul,h3,h4]
 omega
theorem shr_or_lt {x y u:Nat} (hx:x<4294967296) (hu:u<32):(x / 2^u ||| y*2^(32-u)%4294967296)<4294967296:=by
 refine Nat.or_lt_two_pow (n:=32) (Nat.lt_of_le_of_lt (Nat.div_le_self _ _) hx) (Nat.mod_lt _ (by omega))
theorem shr_end {u r:List Nat} {n up R:Nat} (hu:val u=R*2^up) (hlt:val u<4294967296^n) (hn:n<u.length) (hup:up<32) (h:val r*2^up+u.getD 0 0%2^up=val (u.take n)+4294967296^n*(u.getD n 0%2^up)):val r=R:=by
 have hU:0<2^up:=Nat.pow_pos (by omega)
 have h1:=val_drop_split u n (by omega)
 have h2:val (u.drop n)=0:=by
  cases hz:val (u.drop n) with
  | zero=>rfl
  | succ z =>
   rw [hz] at h1
   have:4294967296^n*1≤4294967296^n*(z+1):=Nat.mul_le_mul_left _ (by omega)
   omega
 rw [h2,Nat.mul_zero,Nat.add_zero] at h1
 have h3:u.getD n 0=0:=by
  rw [drop_getD hn,val] at h2
  omega
 have h4:u.getD 0 0%2^up=0:=by
  have h5:val u%2^up=0:=by rw [hu];exact Nat.mul_mod_left _ _
  have h6:val u=u.getD 0 0+4294967296*val (u.drop 1):=by
   have:=drop_getD (l:=u) (i:=0) (by omega)
   rw [List.drop_zero] at this
   conv=>lhs;rw [this]
   rfl
  rw [h6,show (4294967296:Nat)=2^up*2^(32-up) by rw [← Nat.pow_add,show up+(32-up)=32 by omega],Nat.mul_assoc,Nat.add_mul_mod_self_left] at h5
  exact h5
 rw [h3,h4,← h1,hu] at h
 simp only [Nat.zero_mod,Nat.mul_zero,Nat.add_zero] at h
 exact Nat.eq_of_mul_eq_mul_right hU h
end Go.Proofs.YtjmkfbhecgkbmaaGreat.Vm
namespace Go.Proofs.YtjmkfbhecgkbmaaGreat.Vm
open Go Go.RowKit
set_option maxHeartbeats 4000000 in
theorem long_ok (a b:List Nat) (ha:Limbs a) (hb:Limbs b) (hbl:2≤b.length) (hba:b.length≤a.length) (hal:a.length<274877906944) (ht:b.getD (b.length-1) 0≠0) :
  Pure Tryz.prog 251 [cNat a,cNat b] (· = .tup [cN (val a / val b),cN (val a%val b)]):=by
 obtain ⟨nb,hnb⟩:∃ nb,b.length=nb+1:=⟨b.length-1,by omega⟩
 have ht':b.getD nb 0≠0:=by rwa [hnb,Nat.add_sub_cancel] at ht
 have hbl1:=blen_le (n:=b.getD nb 0) (k:=32) (hb.getD nb)
 obtain ⟨up,hup⟩:∃ up,up=32-blen (b.getD nb 0):=⟨_,rfl⟩
 obtain ⟨hup32,hVB,hVt⟩:=norm_facts hb hnb ht' hup
 have hBt:=hb.getD nb
 obtain ⟨v,hv⟩:∃ v,v=padL (nb+1) (val b*2^up):=⟨_,rfl⟩
 have hvl:v.length=nb+1:=by rw [hv];exact padL_length hVB
 have hvL:Limbs v:=by rw [hv];exact padL_limbs _ _
 have hvv:val v=val b*2^up:=by rw [hv];exact padL_val _ _
 rw [← hv] at hVt
 have hvt:(padL (nb+1+1) (val b*2^up)).take (nb+1)=v:=by rw [hv];exact padL_take hVB (by omega)
 have hvm:=moved_ok b up hb (by omega) hup32
 have hum:=moved_new a up ha (by omega) hup32
 have hUB:val a*2^up<4294967296^(a.length+1):=by
  rw [Nat.pow_succ]
  exact Nat.mul_lt_mul_of_lt_of_le (val_lt ha) (Nat.le_trans (Nat.pow_le_pow_right (by omega) (Nat.le_of_lt hup32)) (by decide)) (by decide)
 obtain ⟨u0,hu0⟩:∃ u0,u0=padL (a.length+1) (val a*2^up):=⟨_,rfl⟩
 have hu0l:u0.length=a.length+1:=by rw [hu0];exact padL_length hUB
 have hu0L:Limbs u0:=by rw [hu0];exact padL_limbs _ _
 have hu0v:val u0=val a*2^up:=by rw [hu0];exact padL_val _ _
 have hpl:(padL (nb+1+1) (val b*2^up)).length=nb+1+1:=padL_length (Nat.lt_of_lt_of_le hVB (Nat.pow_le_pow_right (by omega) (by omega)))
 rw [← hu0] at hum
 rw [hnb] at hvm
 clear hu0 hv
 have hV0:0<val v:=by
  rw [val_top (n:=nb) hvl]
  have:0<4294967296^nb*v.getD nb 0:=Nat.mul_pos (Nat.pow_pos (by omega)) (by omega)
  omega
 have hVB':val v<4294967296^(nb+1):=by rw [hvv];exact hVB
 have hm:a.length+1=(a.length-nb)+nb+1:=by omega
 have hst:val (u0.drop (a.length-nb))<val v:=by
  refine long_start (m:=a.length-nb) (n:=nb) (by omega) hu0v ?_ ?_
  ·have:=val_lt ha
   rwa [show a.length-nb+nb=a.length by omega]
  ·rw [hvv]
   refine Nat.mul_le_mul_right _ ?_
   rw [val_top (n:=nb) hnb]
   have:4294967296^nb*1≤4294967296^nb*b.getD nb 0:=Nat.mul_le_mul_left _ (by omega)
   omega
 have hnb':((b.length:Nat):Int)-1=nb:=by omega
 (refine pureW Tryz.func251 rfl (rs:=[Go.ResultVar.tmp 4,Go.ResultVar.tmp 5]) rfl (n:=89) rfl ?_;simp only [List.length_cons,List.length_nil,List.replicate,List.cons_append,List.nil_append])
 simp only [cNat]
 ((refine W_seqV ?_);intro K hK;(refine sNa ?_))
 (refine hK _ ?_;clear hK K)
 (refine W_seqV fun K hK=>?_;simp (disch:=omega) only [sB,sA,Eff.app,List.set,Eff.wi,sT,hnb,Nat.add_sub_cancel,objOf,reduceCtorEq,TI.isAgg,Nat.reduceLeDiff,ofCells,sepL])
 ((repeat refine aI ?_);refine ⟨by kernel_rfl,_,.pure rfl (lz32_ok (b.getD nb 0) hBt),?_⟩;(try (refine sNa ?_)))
 rw [← hup]
 (refine hK _ ?_;clear hK K)
 (refine W_seqV fun K hK=>?_;(refine sNaX hnb ?_;try exact True.intro))
 (refine ⟨by kernel_rfl,_,.pure rfl (hvm),?_⟩;(try (refine sNa ?_));(repeat refine aI ?_))
 (refine sNaX (And.intro hpl hvt) ?_;try exact True.intro)
 (refine hK _ ?_;clear hK K)
 ((refine W_seqR ?_);intro K hK;(refine sNa ?_))
 (refine ⟨by kernel_rfl,call_new 29 rfl rfl hum fun rows hr=>?_⟩;subst hr;(refine sNaX hu0l ?_;try exact True.intro))
 (refine hK _ ?_;clear hK K)
 (refine W_seqV fun K hK=>?_;(refine sNaX hvl ?_;try exact True.intro))
 (refine hK _ ?_;clear hK K)
 have hsub:a.length+1-(nb+1)=a.length-nb:=by omega
 (refine W_seqR fun K hK=>?_;(refine sNaX hsub ?_;try exact True.intro))
 (repeat refine aI ?_);refine hK _ ?_;clear hK K
 refine W_join (fun s'=>∃ u q,u.length=a.length+1∧q.length=a.length-nb∧Limbs u∧Limbs q∧val q=val a / val b∧val u=(val a%val b)*2^up∧Le [] s' ((fun (a_:AV) (d_:Ob)=>(⟨(a_::a_::a_::a_::a_::a_::(.int .i64 up)::a_::(.sref 29 0 (a.length+1))::(.int .i64 ((nb+1:Nat):Int))::(.sref 36 0 (a.length-nb))::a_::a_::a_::a_::a_::a_::a_::a_::a_::a_::a_::a_::a_::a_::a_::a_::a_::a_::a_::a_::a_::a_::a_::a_::a_::a_::a_::a_::a_::a_::a_::a_::a_::a_::a_::a_::a_::a_::a_::a_::a_::a_::a_::a_::a_::a_::a_::a_::a_::a_::a_::a_::a_::a_::a_::a_::a_::a_::a_::a_::a_::a_::a_::a_::a_::a_::a_::a_::a_::a_::a_::a_::a_::a_::a_::a_::a_::a_::[]),(d_::d_::d_::d_::d_::d_::d_::d_::d_::d_::d_::d_::d_::d_::d_::d_::d_::d_::d_::d_::d_::d_::d_::d_::d_::d_::d_::d_::d_::(.arr 179 1 true (u32s u))::d_::d_::d_::d_::d_::d_::(.arr 179 1 true (u32s q))::d_::d_::d_::d_::d_::d_::d_::d_::d_::d_::d_::d_::d_::d_::d_::d_::d_::d_::d_::d_::d_::d_::d_::d_::d_::d_::d_::d_::d_::d_::d_::d_::d_::d_::d_::d_::d_::d_::d_::d_::d_::d_::d_::d_::d_::d_::d_::d_::d_::d_::d_::d_::[])⟩:St)) .any .dead)) ?_ ?_
 ·refine W_seq ?_
  (refine W_regV fun K hK=>?_;(refine sNaX hsub ?_;try exact True.intro))
  (refine hK _ ?_;clear hK K)
  refine W_block (W_loop (fun t:{t:Nat × List Nat × List Nat // t.1≤a.length-nb∧t.2.1.length=a.length+1∧t.2.2.length=a.length-nb∧Limbs t.2.1∧Limbs t.2.2∧val (t.2.1.drop t.1)<val v∧val t.2.1+4294967296^t.1*val (t.2.2.drop t.1)*val v=val u0} =>
   ((fun (a_:AV) (d_:Ob)=>(⟨(a_::a_::a_::a_::a_::a_::(.int .i64 up)::(.sl (u32s v))::(.sref 29 0 (a.length+1))::(.int .i64 ((nb+1:Nat):Int))::(.sref 36 0 (a.length-nb))::(.int .i64 ((t.1.1:Int)-1))::a_::a_::a_::a_::a_::a_::a_::a_::a_::a_::a_::a_::a_::a_::a_::a_::a_::a_::a_::a_::a_::a_::a_::a_::a_::a_::a_::a_::a_::a_::a_::a_::a_::a_::a_::a_::a_::a_::a_::a_::a_::a_::a_::a_::a_::a_::a_::a_::a_::a_::a_::a_::a_::a_::a_::a_::a_::a_::a_::a_::a_::a_::a_::a_::a_::a_::a_::a_::a_::a_::a_::a_::a_::a_::a_::a_::a_::[]),(d_::d_::d_::d_::d_::d_::d_::d_::d_::d_::d_::d_::d_::d_::d_::d_::d_::d_::d_::d_::d_::d_::d_::d_::d_::d_::d_::d_::d_::(.arr 179 1 true (u32s t.1.2.1))::d_::d_::d_::d_::d_::d_::(.arr 179 1 true (u32s t.1.2.2))::d_::d_::d_::d_::d_::d_::d_::d_::d_::d_::d_::d_::d_::d_::d_::d_::d_::d_::d_::d_::d_::d_::d_::d_::d_::d_::d_::d_::d_::d_::d_::d_::d_::d_::d_::d_::d_::d_::d_::d_::d_::d_::d_::d_::d_::d_::d_::d_::d_::d_::d_::d_::[])⟩:St)) .any .dead)) (fun t=>t.1.1)
   ⟨(a.length-nb,u0,List.replicate (a.length-nb) 0),by simp,hu0l,by simp,hu0L,Limbs.rep _,hst,by simp [val]⟩ (Le_of ?_ rfl) fun t=>?_)
  ·simp [leE]
   omega
  obtain ⟨⟨k,u,q⟩,h1,h2,h3,h4,h5,h6,h7⟩:=t
  dsimp only at h1 h2 h3 h4 h5 h6 h7 ⊢
  rcases k with _ | k
  ·refine W_seq ?_
   ((refine W_seqV ?_);intro K hK;(refine sNa ?_))
   (refine hK _ ?_;clear hK K)
   (repeat' (first | (exfalso;simp at h;done) | (refine W_exit ?_;simp only [thenW,blockW,if_true,reduceCtorEq,if_false,Nat.reduceEqDiff]) | (refine W_cond rfl (fun h=>?_) (fun h=>?_) <;> (try simp only [cond_true,cond_false,ne_eq,cB] at h))))
   rw [hvv,hu0v] at h7
   rw [hvv] at h6
   have hb0:0<val b:=by
    rw [hvv] at hV0
    exact Nat.pos_of_mul_pos_right hV0
   obtain ⟨e1,e2⟩:=long_end h7 h6 hb0
   exact ⟨u,q,h2,h3,h4,h5,e1,e2,Le_of (by simp [leE]) rfl⟩
  ·have hj:((k+1:Nat):Int)-1=k:=by omega
   rw [hj]
   (repeat' (first | (exfalso;simp at h;done) | refine W_block ?_ | (refine W_seqV fun K hK=>?_;(try (refine sNa ?_));refine hK _ ?_;clear hK K) | refine W_skip ?_ | (refine W_cond rfl (fun h=>?_) (fun h=>?_) <;> (try simp only [cond_true,cond_false,ne_eq,cB] at h)) | refine W_seq ?_))
   have hsz:k+(nb+1)+1-k=v.length+1:=by omega
   obtain ⟨g1,g2,g3⟩:=long_win (u:=u) (k:=k) (n:=nb+1) (by omega) hVB' h4 h6
   obtain ⟨g4,g5⟩:=long_next (q:=q) (n:=nb+1) (by omega) (by omega) hVB' hV0 h4 h6 h7
   have hwl:((u.drop k).take (nb+1+1)).length=nb+1+1:=by simp;omega
   obtain ⟨win,hwin⟩:∃ win,win=(u.drop k).take (nb+1+1):=⟨_,rfl⟩
   have hps:put u k win=u:=by rw [hwin];exact put_self (by omega)
   have hwL:Limbs win:=by rw [hwin];exact (h4.drop k).take _
   rw [← hwin] at g1 g2 g4 g5 hwl
   have hD:=digit_ok u win v k h4 hwL hvL (by omega) (by omega) (by omega) (by omega) (by rw [hvl,Nat.add_sub_cancel];exact hVt) g2
   rw [hps,hvl] at hD
   rw [hvl] at hsz
   clear hwin
   have hql:val win / val v<4294967296:=Nat.div_lt_of_lt_mul (by rw [Nat.mul_comm];exact g2)
   have hpL:=put_limbs h4 (off:=k) (padL_limbs (nb+1+1) (val win%val v))
   have hpl2:(padL (nb+1+1) (val win%val v)).length=nb+1+1:=padL_length (Nat.lt_trans (Nat.mod_lt _ hV0) (Nat.lt_of_lt_of_le hVB' (Nat.pow_le_pow_right (by omega) (by omega))))
   have hpl3:(put u k (padL (nb+1+1) (val win%val v))).length=a.length+1:=by rw [put_length (by omega)];exact h2
   (refine W_regR fun K hK=>?_;(refine sNa ?_;try exact True.intro))
   refine ⟨by omega,by omega,by kernel_rfl,?_⟩
   rw [hsz]
   refine call_mutC hD rfl rfl fun r rows hr=>?_
   obtain ⟨rfl,rfl⟩:=hr
   obtain ⟨w',hw'⟩:∃ w',w'=put u k (padL (nb+1+1) (val win%val v)):=⟨_,rfl⟩
   obtain ⟨x,hx⟩:∃ x,x=val win / val v:=⟨_,rfl⟩
   rw [← hw'] at g4 g5
   rw [← hx] at g5
   rw [← hx] at hql
   rw [← hw'] at hpL hpl3
   rw [← hw',← hx]
   clear hx hw' hD hps
   (refine sNa ?_;try exact True.intro)
   (repeat refine aI ?_);refine hK _ ?_;clear hK K
   simp only [blockW,thenW]
   (repeat' (refine W_regV fun K hK=>?_;(try (refine sNa ?_));refine hK _ ?_;clear hK K))
   exact ⟨⟨(k,w',q.set k x),by dsimp only;omega,hpl3,by simpa using h3,hpL,h5.set _ hql,g4,g5⟩,Le_of (by simp [leE];exact wrap_i64 (by omega) (by omega)) rfl,by dsimp only;omega⟩
 rintro s' ⟨u,q,h1,h2,h3,h4,h5,h6,hle⟩
 refine W.le ?_ hle
 clear hle s' hvm hum hpl hvt
 (refine aNa ?_)
 refine W_seq (W_seq ?_)
 (refine W_regV fun K hK=>?_;(refine sNa ?_;try exact True.intro))
 (refine hK _ ?_;clear hK K)
 refine W_block (W_loop (fun t:{t:Nat × List Nat // t.1≤nb+1∧t.2.length=nb+1∧Limbs t.2∧val (t.2.take t.1)*2^up+u.getD 0 0%2^up=val (u.take t.1)+4294967296^t.1*(u.getD t.1 0%2^up)} =>
   ((fun (a_:AV) (d_:Ob)=>(⟨(a_::a_::a_::a_::a_::a_::(.int .i64 up)::a_::(.sref 29 0 (a.length+1))::a_::(.sref 36 0 (a.length-nb))::a_::(.sref 59 0 (nb+1))::a_::a_::a_::a_::a_::a_::a_::a_::a_::a_::a_::a_::a_::a_::a_::a_::a_::a_::a_::a_::a_::a_::a_::a_::a_::a_::a_::a_::a_::a_::a_::a_::a_::a_::a_::a_::a_::a_::a_::a_::a_::a_::a_::a_::a_::a_::a_::(.int .i64 ((nb+1:Nat):Int))::(.int .i64 t.1.1)::a_::a_::a_::a_::a_::a_::a_::a_::a_::a_::a_::a_::a_::a_::a_::a_::a_::a_::a_::a_::a_::a_::a_::a_::a_::a_::a_::[]),(d_::d_::d_::d_::d_::d_::d_::d_::d_::d_::d_::d_::d_::d_::d_::d_::d_::d_::d_::d_::d_::d_::d_::d_::d_::d_::d_::d_::d_::(.arr 179 1 true (u32s u))::d_::d_::d_::d_::d_::d_::(.arr 179 1 true (u32s q))::d_::d_::d_::d_::d_::d_::d_::d_::d_::d_::d_::d_::d_::d_::d_::d_::d_::d_::d_::d_::d_::d_::(.arr 179 1 true (u32s t.1.2))::d_::d_::d_::d_::d_::d_::d_::d_::d_::d_::d_::d_::d_::d_::d_::d_::d_::d_::d_::d_::d_::d_::d_::d_::d_::d_::d_::d_::d_::[])⟩:St)) .any .dead)) (fun t=>nb+1-t.1.1)
   ⟨(0,List.replicate (nb+1) 0),by simp,by simp,Limbs.rep _,by simp [val]⟩ (Le_of (by simp [leE]) rfl) fun t=>?_)
 obtain ⟨⟨i,r⟩,g1,g2,g3,g4⟩:=t
 dsimp only at g1 g2 g3 g4 ⊢
 have hui:=h3.getD i
 have hui1:=h3.getD (i+1)
 have hsh:u.getD (i+1) 0*2^(32-up)<18446744073709551616:=by
  have e1:2^(32-up)≤2^32:=Nat.pow_le_pow_right (by omega) (by omega)
  have e2:u.getD (i+1) 0*2^(32-up)≤4294967295*4294967296:=Nat.mul_le_mul (by omega) e1
  omega
 have hor:=shr_or (y:=u.getD (i+1) 0) hui hup32
 have horl:=shr_or_lt (y:=u.getD (i+1) 0) hui hup32
 (repeat' (first|refine W_block ?_|(refine W_seqV fun K hK=>?_;(try (refine sNa ?_));refine hK _ ?_;clear hK K)|(refine W_regV fun K hK=>?_;(try (refine sNa ?_));refine hK _ ?_;clear hK K)|(refine W_regD mixed [] (by kernel_rfl) fun K hK=>?_;(try (refine sNa ?_));(repeat refine aI ?_);refine hK _ ?_;clear hK K)|refine W_skip ?_|(refine W_exit ?_;simp only [thenW,blockW,if_true,reduceCtorEq,if_false,Nat.reduceEqDiff])|(refine W_cond rfl (fun h=>?_) (fun h=>?_) <;> (try simp only [cond_true,cond_false,ne_eq,cB] at h))|refine W_seq ?_))
 ·simp only [thenW]
  refine ⟨⟨(i+1,r.set i (u.getD i 0 / 2^up ||| u.getD (i+1) 0*2^(32-up)%4294967296)),by dsimp only;omega,by simpa using g2,g3.set _ horl,?_⟩,Le_of (by simp [leE]) rfl,by dsimp only;omega⟩
  dsimp only
  rw [val_take_set (by omega),val_take_succ,Nat.pow_succ,hor]
  exact shr_round g4 hup32
 ·obtain rfl:i=nb+1:=by omega
  have hb0:0<val b:=by
   rw [hvv] at hV0
   exact Nat.pos_of_mul_pos_right hV0
  rw [List.take_of_length_le (by omega)] at g4
  have hr:val r=val a%val b:=by
   refine shr_end h6 ?_ (by omega) hup32 g4
   rw [h6]
   refine Nat.lt_trans ?_ hVB
   exact Nat.mul_lt_mul_of_pos_right (Nat.mod_lt _ hb0) (Nat.pow_pos (by omega))
  (refine W.le ?_ (Le_freeze 36 (rows:=u32s q) rfl (by simp) (.inl rfl));simp only [St.freeze,List.map_cons,List.map_nil,List.set,if_true,if_false,Nat.reduceEqDiff,reduceCtorEq,List.drop_zero,u32s_take,u32s_drop,froz_any,froz_und,froz_int,froz_bool,froz_str,froz_nils,froz_sl,froz_ia,froz_nilp,froz_nilif,froz_nilfn,froz_nilmp,froz_gl,froz_sref,froz_ptr,froz_agg,froz_tup,froz_fn,froz_ifc,frozs_nil,frozs_cons,froz_dead,froz_arr,froz_mp,froz_it,froz_md,froz_map,froz_iter])
  (refine W.le ?_ (Le_freeze 59 (rows:=u32s r) rfl (by simp) (.inl rfl));simp only [St.freeze,List.map_cons,List.map_nil,List.set,if_true,if_false,Nat.reduceEqDiff,reduceCtorEq,List.drop_zero,u32s_take,u32s_drop,froz_any,froz_und,froz_int,froz_bool,froz_str,froz_nils,froz_sl,froz_ia,froz_nilp,froz_nilif,froz_nilfn,froz_nilmp,froz_gl,froz_sref,froz_ptr,froz_agg,froz_tup,froz_fn,froz_ifc,frozs_nil,frozs_cons,froz_dead,froz_arr,froz_mp,froz_it,froz_md,froz_map,froz_iter])
  rw [List.take_of_length_le (by omega),List.take_of_length_le (l:=r) (by omega)]
  (refine W_regV fun K hK=>?_;(refine sNa ?_;try exact True.intro))
  (refine ⟨by kernel_rfl,_,.pure rfl (own_ok' q h4 (by omega)),?_⟩;(try (refine sNa ?_)))
  (refine ⟨by kernel_rfl,_,.pure rfl (own_ok' r g3 (by omega)),?_⟩;(try (refine sNa ?_)))
  (refine hK _ ?_;clear hK K)
  refine W_ret ?_
  (refine qG ?_;try exact True.intro)
  rw [h5,hr]
end Go.Proofs.YtjmkfbhecgkbmaaGreat.Vm
namespace Go.Proofs.YtjmkfbhecgkbmaaGreat.Vm
open Go Go.RowKit
theorem limbs_top {n:Nat} (h:n≠0):(limbs n).getD ((limbs n).length-1) 0≠0:=by
 induction n using Nat.strongRecOn with
 | _ n ih =>
  rw [limbs_pos h,List.length_cons,Nat.add_sub_cancel]
  by_cases h0:n / 4294967296=0
  ·rw [h0,limbs_zero]
   simp only [List.length_nil,List.getD_cons_zero]
   omega
  ·have:=ih _ (by omega) h0
   obtain ⟨m,hm⟩:∃ m,(limbs (n / 4294967296)).length=m+1:=⟨(limbs (n / 4294967296)).length-1,by
    have:limbs (n / 4294967296)≠[]:=fun h=>h0 (limbs_eq_nil.1 h)
    have:=List.length_pos_iff.2 this
    omega⟩
   rw [hm] at this ⊢
   rw [List.getD_cons_succ]
   exact this
theorem limbs_len_pos {n:Nat} (h:n≠0):0<(limbs n).length:=List.length_pos_iff.2 fun h0=>h (limbs_eq_nil.1 h0)
theorem sgn_lt {a b:Nat} (h:a<b):sgn a b = -1:=by simp [sgn,h]
theorem sgn_ge {a b:Nat} (h:¬ a<b):decide (sgn a b<0)=false:=by
 simp only [sgn,h,if_false,decide_eq_false_iff_not]
 split <;> omega
theorem sgn_lt' {a b:Nat} (h:a<b):decide (sgn a b<0)=true:=by rw [sgn_lt h];rfl
theorem limbs_one {n:Nat} (h:(limbs n).length=1):(limbs n).getD 0 0=n∧n<4294967296:=by
 have h0:n≠0:=by rintro rfl;rw [limbs_zero] at h;cases h
 have h1:=val_limbs n
 have h2:=limbs_limbs n
 match hl:limbs n,h with
 | [x],_ =>
  rw [hl] at h1 h2
  have h3:=h2 x List.mem_cons_self
  simp only [val] at h1
  simp only [List.getD_cons_zero]
  omega
def divR (a b:Nat):AV:=if b=0 then .tup [cN 0,cN 0,.int .i64 11] else .tup [cN (a / b),cN (a%b),.int .i64 0]
set_option maxHeartbeats 4000000 in
theorem ndiv_ok (a b:List Nat) (ha:Limbs a) (hb:Limbs b) (h1:a.length<274877906944) (h2:b.length<274877906944) :
  Pure Tryz.prog 230 [cNat a,cNat b] (·=divR (val a) (val b)):=by
 have hal:=limbs_val_length ha
 have hbl:=limbs_val_length hb
 have haL:=limbs_limbs (val a)
 have hbL:=limbs_limbs (val b)
 have hcmp:=ncmp_ok (limbs (val a)) (limbs (val b)) haL hbL (by omega) (by omega)
 rw [val_limbs,val_limbs] at hcmp
 have hoa:=own_ok' (limbs (val a)) haL (by omega)
 rw [val_limbs] at hoa
 (refine pureW Tryz.func230 rfl (rs:=[Go.ResultVar.tmp 4,Go.ResultVar.tmp 5,Go.ResultVar.tmp 6]) rfl (n:=51) rfl ?_;simp only [List.length_cons,List.length_nil,List.replicate,List.cons_append,List.nil_append])
 ((refine W_seqV ?_);intro K hK;(refine sNa ?_))
 (refine hK _ ?_;clear hK K)
 ((refine W_seqV ?_);intro K hK;(refine sNa ?_))
 (refine ⟨by kernel_rfl,_,.pure rfl (trim_ok' a ha (by omega)),?_⟩;(try (refine sNa ?_)))
 (refine ⟨by kernel_rfl,_,.pure rfl (trim_ok' b hb (by omega)),?_⟩;(try (refine sNa ?_)))
 (refine hK _ ?_;clear hK K)
 refine W_seq (W_block ?_)
 by_cases hb0:val b=0
 ·rw [hb0,limbs_zero]
  (repeat' (first | (exfalso;simp at h;done) | (refine W_seqV fun K hK=>?_;(try (refine sNa ?_));refine hK _ ?_;clear hK K) | (refine W_ret ?_;(refine qG ?_)) | (refine W_cond rfl (fun h=>?_) (fun h=>?_) <;> (try simp only [cond_true,cond_false,ne_eq,cB] at h))))
  rw [divR,if_pos rfl]
  simp only [cN,limbs_zero,cNat]
  rfl
 have hbp:=limbs_len_pos hb0
 have hbt:=limbs_top hb0
 rw [divR,if_neg hb0]
 have hz:(((limbs (val b)).length:Int) == 0)=false:=by rw [beq_eq_false_iff_ne];omega
 ((refine W_seqV ?_);intro K hK;(refine sNaX hz ?_))
 (refine hK _ ?_;clear hK K)
 (refine W_cf rfl ?_)
 by_cases hlt:val a<val b
 ·have hs:=sgn_lt' hlt
  ((refine W_seqV ?_);intro K hK;(refine sNa ?_))
  (refine ⟨by kernel_rfl,_,.pure rfl (hcmp),?_⟩;(try (refine sNa ?_)))
  (refine sNaX hs ?_;try exact True.intro)
  (refine hK _ ?_;clear hK K)
  (refine W_ct rfl ?_)
  ((refine W_seqV ?_);intro K hK;(refine sNa ?_))
  (refine ⟨by kernel_rfl,_,.pure rfl (hoa),?_⟩;(try (refine sNa ?_)))
  (refine hK _ ?_;clear hK K)
  refine W_ret ?_
  (refine qG ?_;try exact True.intro)
  rw [Nat.div_eq_of_lt hlt,Nat.mod_eq_of_lt hlt,limbs_zero]
  rfl
 ·have hs:=sgn_ge hlt
  have hmono:=limbs_mono (Nat.le_of_not_lt hlt)
  ((refine W_seqV ?_);intro K hK;(refine sNa ?_))
  (refine ⟨by kernel_rfl,_,.pure rfl (hcmp),?_⟩;(try (refine sNa ?_)))
  (refine sNaX hs ?_;try exact True.intro)
  (refine hK _ ?_;clear hK K)
  (refine W_cf rfl ?_)
  by_cases ho:(limbs (val b)).length=1
  ·obtain ⟨o1,o2⟩:=limbs_one ho
   have hz2:(((limbs (val b)).length:Int) == 1)=true:=by rw [ho];rfl
   have hsh:=short_ok (limbs (val a)) (val b) haL (by omega) (by omega) o2
   rw [val_limbs] at hsh
   have hmod:=Nat.mod_lt (val a) (show 0<val b by omega)
   have hql:(padL (limbs (val a)).length (val a / val b)).length=(limbs (val a)).length:=padL_length (Nat.lt_of_le_of_lt (Nat.div_le_self _ _) (by have:=val_lt haL;rwa [val_limbs] at this))
   have hq:=own_ok' (padL (limbs (val a)).length (val a / val b)) (padL_limbs _ _) (by omega)
   rw [padL_val] at hq
   have hr:=own_ok' [val a%val b] (fun x hx=>by simp at hx;omega) (by simp)
   simp only [val,Nat.mul_zero,Nat.add_zero] at hr
   ((refine W_seqV ?_);intro K hK;(refine sNaX hz2 ?_))
   (refine hK _ ?_;clear hK K)
   (refine W_ct rfl ?_)
   ((refine W_seqV ?_);intro K hK;(refine sNaX o1 ?_))
   ((repeat refine aI ?_);refine ⟨by kernel_rfl,_,.pure rfl (hsh),?_⟩;(try (refine sNa ?_)))
   (refine hK _ ?_;clear hK K)
   ((refine W_seqV ?_);intro K hK;(refine sNa ?_))
   (refine ⟨by kernel_rfl,_,.pure rfl (hq),?_⟩;(try (refine sNa ?_));(repeat refine aI ?_))
   (refine ⟨by kernel_rfl,_,.pure rfl (hr),?_⟩;(try (refine sNa ?_)))
   (refine hK _ ?_;clear hK K)
   refine W_ret ?_
   (refine qG ?_;try exact True.intro)
  ·have hz2:(((limbs (val b)).length:Int) == 1)=false:=by rw [beq_eq_false_iff_ne];omega
   have hlo:=long_ok (limbs (val a)) (limbs (val b)) haL hbL (by omega) hmono (by omega) hbt
   rw [val_limbs,val_limbs] at hlo
   ((refine W_seqV ?_);intro K hK;(refine sNaX hz2 ?_))
   (refine hK _ ?_;clear hK K)
   (refine W_cf rfl ?_)
   refine W_skip ?_
   simp only [thenW,blockW]
   ((refine W_seqV ?_);intro K hK;(refine sNa ?_))
   (refine ⟨by kernel_rfl,_,.pure rfl (hlo),?_⟩;(try (refine sNa ?_)))
   (refine hK _ ?_;clear hK K)
   (repeat' (first | (refine W_seqV fun K hK=>?_;(try (refine sNa ?_));refine hK _ ?_;clear hK K) | (refine W_ret ?_;(refine qG ?_;try exact True.intro))))
theorem gcd_step {a b:Nat} (hb:b≠0):Nat.gcd b (a%b)=Nat.gcd a b:=by
 rw [Nat.gcd_comm b,← Nat.gcd_rec,Nat.gcd_comm]
set_option maxHeartbeats 4000000 in
theorem ngcd_ok (a b:List Nat) (ha:Limbs a) (hb:Limbs b) (h1:a.length<274877906944) (h2:b.length<274877906944) :
  Pure Tryz.prog 229 [cNat a,cNat b] (·=cN (Nat.gcd (val a) (val b))):=by
 have hal:=limbs_val_length ha
 have hbl:=limbs_val_length hb
 (refine pureW Tryz.func229 rfl (rs:=[Go.ResultVar.tmp 4]) rfl (n:=25) rfl ?_;simp only [List.length_cons,List.length_nil,List.replicate,List.cons_append,List.nil_append])
 ((refine W_seqV ?_);intro K hK;(refine sNa ?_))
 (refine hK _ ?_;clear hK K)
 ((refine W_seqV ?_);intro K hK;(refine sNa ?_))
 (refine ⟨by kernel_rfl,_,.pure rfl (own_ok' a ha (by omega)),?_⟩;(try (refine sNa ?_)))
 (refine ⟨by kernel_rfl,_,.pure rfl (own_ok' b hb (by omega)),?_⟩;(try (refine sNa ?_)))
 (refine hK _ ?_;clear hK K)
 refine W_seq (W_block (W_loop (fun t:{t:Nat × Nat // (limbs t.1).length<274877906944∧(limbs t.2).length<274877906944∧Nat.gcd t.1 t.2=Nat.gcd (val a) (val b)} =>
   ⟨[cN t.1.1,cN t.1.2,.any,.any,.any,.any,.any,.any,.any,.any,.any,.any,.any,.any,.any,.any,.any,.any,.any,.any,.any,.any,.any,.any,.any],[.dead,.dead,.dead,.dead,.dead,.dead,.dead,.dead,.dead,.dead,.dead,.dead,.dead,.dead,.dead,.dead,.dead,.dead,.dead,.dead,.dead,.dead,.dead,.dead,.dead]⟩) (fun t=>t.1.2)
   ⟨(val a,val b),by dsimp only;omega,by dsimp only;omega,rfl⟩ (Le_of (by simp [leE,cN,cNat]) rfl) fun t=>?_))
 obtain ⟨⟨x,y⟩,h3,h4,h5⟩:=t
 dsimp only at h3 h4 h5 ⊢
 by_cases hy:y=0
 ·subst hy
  simp only [cN,limbs_zero,cNat]
  (repeat' (first | (exfalso;simp at h;done) | (refine W_seqV fun K hK=>?_;(try (refine sNa ?_));refine hK _ ?_;clear hK K) | (refine W_ret ?_;(refine qG ?_)) | (refine W_exit ?_;simp only [thenW,blockW,if_true,reduceCtorEq,if_false,Nat.reduceEqDiff]) | (refine W_cond rfl (fun h=>?_) (fun h=>?_) <;> (try simp only [cond_true,cond_false,ne_eq,cB] at h)) | refine W_seq ?_))
  rw [← h5,Nat.gcd_zero_right]
 ·have hp:=limbs_len_pos hy
  have hd:=ndiv_ok (limbs x) (limbs y) (limbs_limbs x) (limbs_limbs y) h3 h4
  rw [val_limbs,val_limbs,divR,if_neg hy] at hd
  have hml:=limbs_mono (Nat.mod_le x y)
  (repeat' (first | refine W_block ?_ | (refine W_seqV fun K hK=>?_;(try (refine sNa ?_));refine hK _ ?_;clear hK K) | refine W_skip ?_ | (refine W_ret ?_;(refine qG ?_)) | (refine W_exit ?_;simp only [thenW,blockW,if_true,reduceCtorEq,if_false,Nat.reduceEqDiff]) | (refine W_cond rfl (fun h=>?_) (fun h=>?_) <;> (try simp only [cond_true,cond_false,ne_eq,cB] at h)) | refine W_seq ?_))
  ·((refine W_regV ?_);intro K hK;(refine sNa ?_))
   (refine ⟨by kernel_rfl,_,.pure rfl (hd),?_⟩;(try (refine sNa ?_)))
   (refine hK _ ?_;clear hK K)
   ((refine W_regV ?_);intro K hK;(refine sNa ?_))
   (refine hK _ ?_;clear hK K)
   simp only [blockW,thenW]
   exact ⟨⟨(y,x%y),h4,by dsimp only;omega,by rw [gcd_step hy];exact h5⟩,Le_of (by simp [leE,cN,cNat]) rfl,Nat.mod_lt _ (by omega)⟩
  ·exfalso;omega
def cI (neg:Bool) (l:List Nat):AV := .agg [.bool neg,.sl (u32s l)]
def iv (neg:Bool) (l:List Nat):Int:=if neg then -(val l:Int) else val l
def cZ (z:Int):AV:=cI (decide (z<0)) (limbs z.natAbs)
theorem iv_abs (neg:Bool) (l:List Nat):(iv neg l).natAbs=val l:=by
 unfold iv;split <;> simp
theorem iv_cZ (z:Int):iv (decide (z<0)) (limbs z.natAbs)=z:=by
 unfold iv
 rw [val_limbs]
 by_cases h:z<0
 ·simp only [h,decide_true,if_true];omega
 ·simp only [h,decide_false,Bool.false_eq_true,if_false];omega
theorem cZ_of (p:Int) (n:Nat):cI (decide (p<0)&&decide (0<(limbs n).length)) (limbs n)=cZ (if p<0 then -(n:Int) else n):=by
 unfold cZ
 by_cases hp:p<0
 ·simp only [hp,decide_true,if_true,Bool.true_and,Int.natAbs_neg,Int.natAbs_natCast]
  by_cases h0:n=0
  ·subst h0;simp [limbs_zero]
  ·have:=limbs_len_pos h0
   rw [decide_eq_true this,decide_eq_true (show -(n:Int)<0 by omega)]
 ·simp only [hp,decide_false,Bool.false_and,Bool.false_eq_true,if_false,Int.natAbs_natCast]
  rw [decide_eq_false (show ¬ ((n:Int)<0) by omega)]
theorem isign (neg:Bool) (l:List Nat):(iv neg l).sign=if val l=0 then 0 else if neg then -1 else 1:=by
 unfold iv
 by_cases h0:val l=0
 ·simp [h0]
 ·rw [if_neg h0]
  cases neg
  ·simp only [Bool.false_eq_true,if_false];exact Int.sign_eq_one_of_pos (by omega)
  ·simp only [if_true];exact Int.sign_eq_neg_one_of_neg (by omega)
def sg (z:Int):Prop:=z = -1∨z=0∨z=1
theorem sg_sign (z:Int):sg z.sign:=by
 rcases Int.lt_trichotomy z 0 with h | h | h
 ·exact .inl (Int.sign_eq_neg_one_of_neg h)
 ·subst h;exact .inr (.inl rfl)
 ·exact .inr (.inr (Int.sign_eq_one_of_pos h))
theorem sg_mul {a b:Int} (ha:sg a) (hb:sg b):sg (a*b):=by
 rcases ha with rfl | rfl | rfl <;> rcases hb with rfl | rfl | rfl <;> simp [sg]
theorem sg_wrap {a:Int} (h:sg a):IntKind.wrap .i64 a=a:=by
 rcases h with rfl | rfl | rfl <;> rfl
def i64s (l:List Int):List (List AV):=l.map fun x=>[.int .i64 x]
theorem i64s_length (l:List Int):(i64s l).length=l.length:=by simp [i64s]
theorem i64s_all (l:List Int):AllLen 1 (i64s l):=by
 intro r hr
 simp only [i64s,List.mem_map] at hr
 obtain ⟨x,_,rfl⟩:=hr
 rfl
theorem i64s_getD {l:List Int} {i:Nat} (h:i<l.length):(i64s l).getD i []=[.int .i64 (l.getD i 0)]:=by
 simp [i64s,List.getD_eq_getElem?_getD,h]
def prodL (l:List Int):Int:=l.foldl (·*·) 1
theorem prodL_take {l:List Int} {i:Nat} (h:i<l.length):prodL (l.take (i+1))=prodL (l.take i)*l.getD i 0:=by
 unfold prodL
 rw [List.take_succ_eq_append_getElem h,List.foldl_append,List.foldl_cons,List.foldl_nil,List.getD_eq_getElem?_getD,List.getElem?_eq_getElem h]
 rfl
theorem sg_prodL {l:List Int} (h:∀ x∈l,sg x):sg (prodL l):=by
 unfold prodL
 have:∀ (l:List Int) (a:Int),sg a→(∀ x∈l,sg x)→sg (l.foldl (·*·) a):=by
  intro l
  induction l with
  | nil=>intro a ha _;exact ha
  | cons x l ih =>
   intro a ha hl
   exact ih _ (sg_mul ha (hl x List.mem_cons_self)) fun y hy=>hl y (List.mem_cons_of_mem _ hy)
 exact this l 1 (.inr (.inr rfl)) h
theorem sg_getD {l:List Int} (h:∀ x∈l,sg x) (i:Nat):sg (l.getD i 0):=by
 rw [List.getD_eq_getElem?_getD]
 cases hi:l[i]? with
 | none=>exact .inr (.inl rfl)
 | some x=>exact h x (List.mem_of_getElem? hi)
theorem iv_neg (neg:Bool) (l:List Nat):(if prodL [-1,(iv neg l).sign]<0 then -(val l:Int) else val l) = -(iv neg l):=by
 rw [isign]
 simp only [prodL,List.foldl_cons,List.foldl_nil,iv]
 by_cases h0:val l=0
 ·simp [h0]
 ·cases neg <;> simp [h0]
theorem iv_norm (neg:Bool) (l:List Nat):(if prodL [(iv neg l).sign]<0 then -(val l:Int) else val l)=iv neg l:=by
 rw [isign]
 simp only [prodL,List.foldl_cons,List.foldl_nil,iv]
 by_cases h0:val l=0
 ·simp [h0]
 ·cases neg <;> simp [h0]
theorem iv_mul (neg neg':Bool) (l m:List Nat):(if prodL [(iv neg l).sign,(iv neg' m).sign]<0 then -((val l*val m:Nat):Int) else (val l*val m:Nat))=iv neg l*iv neg' m:=by
 rw [isign,isign]
 simp only [prodL,List.foldl_cons,List.foldl_nil,iv]
 by_cases h0:val l=0
 ·simp [h0]
 ·by_cases h1:val m=0
  ·simp [h1]
  ·cases neg <;> cases neg' <;> simp [h0,h1,Int.neg_mul,Int.mul_neg]
theorem bor_sg {x y:Int} (hx:sg x) (hy:sg y):borI .i64 (borI .i64 x y) 1=if x = -1∨y = -1 then -1 else 1:=by
 rcases hx with rfl | rfl | rfl <;> rcases hy with rfl | rfl | rfl <;> decide
theorem sg_bor {x y:Int}:sg (if x = -1∨y = -1 then -1 else 1):=by
 split
 ·exact .inl rfl
 ·exact .inr (.inr rfl)
theorem iv_add_same (neg:Bool) (l:List Nat) (neg':Bool) (m:List Nat) (h:0≤(iv neg l).sign*(iv neg' m).sign) :
  (if prodL [if (iv neg l).sign = -1∨(iv neg' m).sign = -1 then -1 else 1]<0 then -((val l+val m:Nat):Int) else (val l+val m:Nat))=iv neg l+iv neg' m:=by
 rw [isign,isign] at h ⊢
 simp only [prodL,List.foldl_cons,List.foldl_nil,iv]
 by_cases h0:val l=0
 ·by_cases h1:val m=0
  ·simp [h0,h1]
  ·cases neg <;> cases neg' <;> simp [h0,h1]
 ·by_cases h1:val m=0
  ·cases neg <;> cases neg' <;> simp [h0,h1]
  ·cases neg <;> cases neg' <;> simp [h0,h1] at h ⊢
   omega
theorem iv_add_diff (neg:Bool) (l:List Nat) (neg':Bool) (m:List Nat) (h:¬ 0≤(iv neg l).sign*(iv neg' m).sign) :
  (val m≤val l→(if prodL [(iv neg l).sign]<0 then -((val l-val m:Nat):Int) else (val l-val m:Nat))=iv neg l+iv neg' m) ∧
  (val l<val m→(if prodL [(iv neg' m).sign]<0 then -((val m-val l:Nat):Int) else (val m-val l:Nat))=iv neg l+iv neg' m):=by
 rw [isign,isign] at h ⊢
 simp only [prodL,List.foldl_cons,List.foldl_nil,iv]
 by_cases h0:val l=0
 ·simp [h0] at h
 ·by_cases h1:val m=0
  ·simp [h1] at h
  ·cases neg <;> cases neg' <;> simp [h0,h1] at h ⊢ <;> omega
theorem sgn_nn {a b:Nat} (h:b≤a):decide (0≤sgn a b)=true:=by
 refine decide_eq_true ?_
 unfold sgn
 rw [if_neg (by omega)]
 split <;> omega
theorem sgn_ng {a b:Nat} (h:¬ b≤a):decide (0≤sgn a b)=false:=by
 rw [sgn_lt (by omega)];rfl
def zl (z:Int):Nat:=(limbs z.natAbs).length
theorem len_le {n k:Nat} (h:n<4294967296^k):(limbs n).length≤k:=limbs_length_le h
theorem lt_len (n:Nat):n<4294967296^(limbs n).length:=by
 have:=val_lt (limbs_limbs n)
 rwa [val_limbs] at this
theorem zl_add (a b:Int):zl (a+b)≤zl a+zl b+1:=by
 unfold zl
 refine len_le ?_
 have h1:=lt_len a.natAbs
 have h2:=lt_len b.natAbs
 have h3:(a+b).natAbs≤a.natAbs+b.natAbs:=Int.natAbs_add_le a b
 have p1:0<4294967296^(limbs a.natAbs).length:=Nat.pow_pos (by omega)
 have p2:0<4294967296^(limbs b.natAbs).length:=Nat.pow_pos (by omega)
 rw [Nat.pow_succ,Nat.pow_add]
 have h4:4294967296^(limbs a.natAbs).length≤4294967296^(limbs a.natAbs).length*4294967296^(limbs b.natAbs).length:=Nat.le_mul_of_pos_right _ p2
 have h5:4294967296^(limbs b.natAbs).length≤4294967296^(limbs a.natAbs).length*4294967296^(limbs b.natAbs).length:=Nat.le_mul_of_pos_left _ p1
 omega
theorem len_mul (a b:Nat):(limbs (a*b)).length≤(limbs a).length+(limbs b).length:=by
 refine len_le ?_
 rw [Nat.pow_add]
 have h1:=lt_len a
 have h2:=lt_len b
 exact Nat.mul_lt_mul'' h1 h2
theorem zl_mul (a b:Int):zl (a*b)≤zl a+zl b:=by
 unfold zl;rw [Int.natAbs_mul];exact len_mul _ _
theorem zl_neg (a:Int):zl (-a)=zl a:=by unfold zl;rw [Int.natAbs_neg]
end Go.Proofs.YtjmkfbhecgkbmaaGreat.Vm
