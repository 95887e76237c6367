/-
  Part 2 of 9 of a proof.
-/
import Derived.Test.YtjmkfbhecgkbmaaGreatCst1
import Derived.Orders
import Derived.Below
import Derived.Laws.AppendOwn
import Derived.Laws.MakeOwn
import Derived.Laws.CopyRow
import Derived.Laws.Rows
import Derived.Laws.Cells
import Derived.Tactics
import Derived.Laws.BitsLemmas
import Derived.Maps.Range
import Derived.Carry
set_option linter.unusedVariables false
set_option linter.unusedSimpArgs false
set_option maxRecDepth 100000

namespace Go.Proofs.YtjmkfbhecgkbmaaGreat.Vm
open Go Go.ChangeMaps
def findA (td:TD) (key:AV):List (List AV)→Nat→Option (Option Nat)
 | [],_=>some none
 | (x::_)::rs,i =>
  match td,key,x with
  | .int _,.int k a,.int k' b=>if k=k' then (if a=b then some (some i) else findA td key rs (i+1)) else none
  | .str,.str a,.str b=>if a=b then some (some i) else findA td key rs (i+1)
  | _,_,_=>none
 | []::_,_=>none
def entRow (e:MapEntry):List Value:=[e.key,e.val]
theorem findA_sound {w:World} {A:Nat→Prop} {ρ:Pl} {kd:TypeDesc} {td:TD} (htd:tdOf (some kd)=td) {key:AV} {kv:Value} (hk:Rp w A ρ key kv) :
  ∀ (es:List MapEntry) (rows:List (List AV)) (i:Nat) {r:Option Nat},RpR w A noPl rows (es.map entRow)→findA td key rows i=some r →
   (r=none∧Instr.findNow kd kv es i=some none)∨(∃ j e,r=some (i+j)∧es[j]?=some e∧Instr.findNow kd kv es i=some (some (i+j,e.val))∧e.key=kv)
 | [],rows,i,r,h,hf=>by
  have:=h.length
  cases rows with
  | nil=>simp only [findA,Option.some.injEq] at hf;exact .inl ⟨hf.symm,rfl⟩
  | cons x rs=>simp at this
 | e::es,rows,i,r,h,hf=>by
  cases rows with
  | nil=>simp [RpR] at h
  | cons row rs =>
   simp only [List.map_cons,RpR,List.cons.injEq] at h
   obtain ⟨vs,uss,⟨rfl,rfl⟩,h1,h2⟩:=h
   cases row with
   | nil=>cases hf
   | cons x ys =>
    simp only [entRow,Rps,List.cons.injEq] at h1
    obtain ⟨v,us,⟨rfl,_⟩,hx,_⟩:=h1
    have step:∀ {r:Option Nat},findA td key rs (i+1)=some r→(r=none∧Instr.findNow kd kv es (i+1)=some none)∨(∃ j e',r=some (i+(j+1))∧es[j]?=some e'∧Instr.findNow kd kv es (i+1)=some (some (i+(j+1),e'.val))∧e'.key=kv):=fun {r} hf=>by
     rcases findA_sound htd hk es rs (i+1) h2 hf with h3 | ⟨j,e',h3,h4,h5,h6⟩
     ·exact .inl h3
     ·exact .inr ⟨j,e',by rw [h3];congr 1;omega,h4,by rw [h5];congr 3;omega,h6⟩
    unfold findA at hf
    split at hf
    ·rename_i k0 k a k' b
     simp only [Rp] at hk hx
     subst hk
     have hkd:∃ q,kd = .int q:=by unfold tdOf at htd;split at htd <;> simp_all
     obtain ⟨q,rfl⟩:=hkd
     split at hf
     ·rename_i hkk
      subst hkk
      unfold Instr.findNow
      rw [hx]
      simp only [Instr.sameNow,if_true]
      split at hf
      ·rename_i hab
       subst hab
       simp only [Option.some.injEq] at hf
       refine .inr ⟨0,e,hf.symm,rfl,?_,hx⟩
       simp
      ·rename_i hab
       rw [show (a == b)=false by simpa using hab]
       rcases step hf with h3 | ⟨j,e',h3,h4,h5,h6⟩
       ·exact .inl h3
       ·exact .inr ⟨j+1,e',h3,by simpa using h4,h5,h6⟩
     ·cases hf
    ·rename_i a b
     simp only [Rp] at hk hx
     subst hk
     have hkd:kd = .string:=by unfold tdOf at htd;split at htd <;> simp_all
     subst hkd
     unfold Instr.findNow
     rw [hx]
     simp only [Instr.sameNow]
     split at hf
     ·rename_i hab
      subst hab
      simp only [Option.some.injEq] at hf
      refine .inr ⟨0,e,hf.symm,rfl,?_,hx⟩
      rw [show (a == a)=true from (Go.MapKept.bytes_beq a a).2 rfl]
      simp
     ·rename_i hab
      rw [show (a == b)=false from Bool.eq_false_iff.2 fun h=>hab ((Go.MapKept.bytes_beq a b).1 h)]
      rcases step hf with h3 | ⟨j,e',h3,h4,h5,h6⟩
      ·exact .inl h3
      ·exact .inr ⟨j+1,e',h3,by simpa using h4,h5,h6⟩
    ·cases hf
def rowsM (m:AV) (hp:List Ob):Option (List (List AV)) :=
 match m with
 | .mp i=>match hp.getD i .dead with
  | .map _ _ rows=>some rows
  | _=>none
 | .md _ _ rows=>some rows
 | .nilmp=>some []
 | _=>none
def zok (P:Program) (t:TypeId):Bool :=
 match P.info? t with
 | some i=>match i.zero with
  | some (.agg _)=>false
  | some _=>true
  | none=>false
 | none=>false
theorem zok_zero {P:Program} {t:TypeId} (h:zok P t=true):∃ z,(∀ w,(zeroValue t).run P w = .ok z w)∧(tyOf P t).zero=[cst1 z]:=by
 unfold zok at h
 split at h
 ·rename_i i hi
  split at h
  ·cases h
  ·rename_i z hne hz
   refine ⟨z,fun w=>by simp [zeroValue,typeInfo,hi,hz],?_⟩
   unfold tyOf
   rw [hi]
   simp only [hz,Option.map_some,Option.getD_some]
   cases z with
   | agg cs=>exact absurd rfl (hne cs)
   | _=>rfl
  ·cases h
 ·cases h
def isKeyA (td:TD) (x:AV):Bool :=
 match td,x with
 | .int q,.int q' _=>q == q'
 | .str,.str _=>true
 | _,_=>false
def lookW (P:Program) (ti:TI) (m x:AV) (c:Bool) (hp:List Ob) (K:AV→Prop):Prop :=
 match ti.d,rowsM m hp with
 | .map kt et,some rows=>zok P et=true∧isKeyA (tyOf P kt).d x=true∧(match findA (tyOf P kt).d x rows 0 with
  | some (some j)=>K (if c then .tup [(rows.getD j []).getD 1 .any,.bool true] else (rows.getD j []).getD 1 .any)
  | some none=>K (if c then .tup [(tyOf P et).zero.headD .any,.bool false] else (tyOf P et).zero.headD .any)
  | none=>False)
 | _,_=>False
section
variable {P:Program} {fr:Fr} {ρ:Pl} {s:St} {a:Act} {w:World} {o:Oper}
theorem isKeyA_sound {A:Nat→Prop} {kt:TypeId} {x:AV} {v:Value} (h:isKeyA (tyOf P kt).d x=true) (hx:Rp w A ρ x v):∃ d,P.underlying kt=some d∧tdOf (some d)=(tyOf P kt).d∧MapKept.IsKey d v:=by
 unfold isKeyA at h
 split at h
 ·rename_i q q' n hd
  have hu:=tyOf_int hd
  simp only [Rp] at hx
  subst hx
  refine ⟨_,hu,by rw [hd];rfl,?_⟩
  simp only [MapKept.IsKey]
  exact (eq_of_beq h).symm
 ·rename_i s hd
  have hu:=tyOf_str hd
  simp only [Rp] at hx
  subst hx
  exact ⟨_,hu,by rw [hd];rfl,by simp only [MapKept.IsKey]⟩
 ·cases h
theorem rowsM_sound (h:Rep fr ρ s a w) {m:AV} {v:Value} (hm:Rp w (Av fr.F ρ) ρ m v) {rows:List (List AV)} (hr:rowsM m s.hp=some rows) :
  ∃ ents:Array MapEntry,RpR w (Av fr.F ρ) noPl rows (ents.toList.map entRow)∧((v = .map none∧ents=#[])∨∃ b clock,v = .map (some b)∧w.heap[b]?=some (.map ents clock)):=by
 unfold rowsM at hr
 split at hr
 ·rename_i i
  split at hr
  ·rename_i clock births rows' hob
   cases hr
   have ho:=h.heap i
   rw [hob] at ho
   simp only [Rp] at hm
   obtain ⟨b,h1,rfl⟩:=hm
   rw [h1] at ho
   obtain ⟨ents,h2,h3,h4,h5⟩:=ho
   exact ⟨ents,h5,.inr ⟨b,clock,rfl,h2⟩⟩
  ·cases hr
 ·rename_i clock births rows'
  cases hr
  simp only [Rp] at hm
  obtain ⟨b,ents,rfl,h1,h2,h3,h4,h5,h6⟩:=hm
  exact ⟨ents,h6,.inr ⟨b,clock,rfl,h3⟩⟩
 ·cases hr
  simp only [Rp] at hm
  exact ⟨#[],by simp [RpR],.inl ⟨hm,rfl⟩⟩
 ·cases hr
theorem ok_lookup (h:Rep fr ρ s a w) {t:TypeId} {m x:Operand} {c:Bool} (ho:o.op = .lookup t m x c) {K:AV→Prop} (hk:lookW P (tyOf P t) (ev s.env m) (ev s.env x) c s.hp K) :
  ∃ z,K z∧VOk P fr a w o z s:=by
 have hm:=ev_sound h.env m
 have hx:=ev_sound h.env x
 generalize ev s.env m=m' at *
 generalize ev s.env x=x' at *
 unfold lookW at hk
 split at hk
 ·rename_i kt et rows hd hrm
  obtain ⟨hz,hkey,hk⟩:=hk
  have hu:=tyOf_map hd
  obtain ⟨zv,hzr,hzz⟩:=zok_zero hz
  obtain ⟨kd,hkd,htd,hik⟩:=isKeyA_sound hkey hx
  obtain ⟨ents,hrr,hv⟩:=rowsM_sound h hm hrm
  have hzero:Rp w (Av fr.F ρ) ρ ((tyOf P et).zero.headD .any) zv:=by rw [hzz];exact Rp_cst1 w _ ρ zv
  have hrun:∀ {r:Option (Nat × Value)},Instr.findNow kd (a.eval x) ents.toList 0=some r→(Instr.lookup t (a.eval m) (a.eval x) c).run P w = .ok (let (v,ok):=(match r with | some (_,v)=>(v,true) | none=>(zv,false));if c then .tuple #[v,.bool ok] else v) w:=fun {r} hf=>by
   have hfk:=MapKept.run_findKey (w:=w) hkd hf
   have hck:∀ e,(Instr.checkKey e 10000 kt (a.eval x)).run P w = .ok () w:=fun e=>MapKept.run_checkKey hkd hik e 9999
   rcases hv with ⟨hv,rfl⟩ | ⟨b,clock,hv,hb⟩
   ·rw [hv]
    unfold Instr.lookup
    simp only [Sem.run_bind,run_underlying hu,Result.andThen_ok,Sem.run_pure,hck,hfk]
    cases r <;> simp [hzr]
   ·rw [hv]
    unfold Instr.lookup
    simp only [Sem.run_bind,run_underlying hu,Result.andThen_ok,Sem.run_pure,MapKept.run_getObj_map hb,hck,hfk]
    cases r <;> simp [hzr]
  split at hk
  ·rename_i j hf
   rcases findA_sound htd hx ents.toList rows 0 hrr hf with ⟨h1,_⟩ | ⟨j',e,h1,h2,h3,_⟩
   ·cases h1
   ·cases h1
    rw [Nat.zero_add] at *
    refine ⟨_,hk,if c=true then .tuple #[e.val,.bool true] else e.val,w,ρ,?_,h,?_⟩
    ·unfold execOp
     simp only [ho]
     simp [hrun h3]
    ·have hj:j'<rows.length:=by
      have:=hrr.length
      have:=(List.getElem?_eq_some_iff.1 h2).1
      simp at *
      omega
     obtain ⟨u,hu1,hu2⟩:=hrr.get (show rows[j']?=some (rows.getD j' []) by simp [List.getD_eq_getElem?_getD,hj])
     rw [List.getElem?_map,h2] at hu1
     cases hu1
     have hval:Rp w (Av fr.F ρ) ρ ((rows.getD j' []).getD 1 .any) e.val:=by
      generalize rows.getD j' []=row at hu2
      match row,hu2 with
      | [],hu2=>simp [entRow,Rps] at hu2
      | [_],hu2=>simp [entRow,Rps] at hu2
      | _::y::_,hu2 =>
       simp only [entRow,Rps,List.cons.injEq] at hu2
       obtain ⟨_,_,⟨rfl,rfl⟩,_,v,us,⟨rfl,_⟩,h6,_⟩:=hu2
       exact Rp.later (ρ:=noPl) y (noPl_later ρ) h6
     cases c
     ·simpa using hval
     ·simp only [if_true,Rp,Rps]
      exact ⟨_,rfl,_,_,rfl,hval,_,_,rfl,rfl,rfl⟩
  ·rename_i hf
   rcases findA_sound htd hx ents.toList rows 0 hrr hf with ⟨_,h1⟩ | ⟨j',e,h1,_⟩
   ·refine ⟨_,hk,if c=true then .tuple #[zv,.bool false] else zv,w,ρ,?_,h,?_⟩
    ·unfold execOp
     simp only [ho]
     simp [hrun h1]
    ·cases c
     ·simpa using hzero
     ·simp only [if_true,Rp,Rps]
      exact ⟨_,rfl,_,_,rfl,hzero,_,_,rfl,rfl,rfl⟩
   ·cases h1
  ·exact hk.elim
 ·exact hk.elim
end
end Go.Proofs.YtjmkfbhecgkbmaaGreat.Vm
namespace Go.Proofs.YtjmkfbhecgkbmaaGreat.Vm
open Go
open Go.ChangeMaps (setBlock)
section
variable {P:Program} {fr:Fr} {ρ:Pl} {s:St} {a:Act} {w:World} {o:Oper}
theorem getD_live' {hp:List Ob} {i clock:Nat} {births:List Nat} {rows:List (List AV)} (h:hp.getD i .dead = .map clock births rows):hp[i]?=some (.map clock births rows):=by
 rw [List.getD_eq_getElem?_getD] at h
 cases hi:hp[i]? with
 | none=>rw [hi] at h;cases h
 | some x=>rw [hi] at h;exact congrArg some h
theorem RpR.head {w:World} {A:Nat→Prop} {ρ:Pl} {r:List AV} {v:List Value} (h:RpR w A ρ [r] [v]):Rps w A ρ r v:=by
 simp only [RpR,List.cons.injEq] at h
 obtain ⟨vs,us,⟨rfl,_⟩,h1,_⟩:=h
 exact h1
theorem setBlock_same {w:World} {b:Nat} (hb:b<w.heap.size) (ob:Obj):(setBlock w b ob).heap[b]?=some ob:=by simp [setBlock,hb]
theorem setBlock_other {w:World} {b k:Nat} (hk:k≠b) (ob:Obj):(setBlock w b ob).heap[k]?=w.heap[k]?:=by simp [setBlock,Ne.symm hk]
theorem setBlock_later (h:Rep fr ρ s a w) {i:Nat} {p:Place} {b:Nat} (hp:ρ i=some p) (hb:p.block=some b) (ob:Obj):Later w (Av fr.F ρ) ρ (setBlock w b ob) (Av fr.F ρ) ρ :=
 ⟨by simp [setBlock],fun _ _ h=>h,fun k' _ hk'=>setBlock_other (fun e=>hk' (.inr ⟨i,p,hp,by rw [e];exact hb⟩)) ob,fun _ _ h=>h⟩
theorem Rep.setBlk (h:Rep fr ρ s a w) {i:Nat} {p:Place} {b:Nat} (hil:i<s.hp.length) (hp:ρ i=some p) (hb:p.block=some b) {ob:Obj} {o':Ob} (ho':HRo (setBlock w b ob) (Av fr.F ρ) ρ o' (some p)) :
  Rep fr ρ ⟨s.env,s.hp.set i o'⟩ a (setBlock w b ob):=by
 have hlat:=setBlock_later h hp hb ob
 refine { keep:=⟨h.keep.os,h.keep.tape,h.keep.output,Nat.le_trans h.keep.size hlat.size,fun k' hk' hm'=>?_⟩,base:=Nat.le_trans h.base hlat.size,defers:=h.defers,heap:=fun j=>?_,inj:=h.inj,mine:=h.mine,fF:=h.fF,pin:=h.pin,env:=h.env.later _ hlat }
 ·rw [setBlock_other]
  ·exact h.keep.block k' hk' hm'
  ·rintro rfl
   rcases h.mine i _ _ hp hb with h7 | h7
   ·omega
   ·exact hm' h7
 ·by_cases hj:j=i
  ·subst hj
   rw [getD_set_same _ _ _ _ hil,hp]
   exact ho'
  ·show HRo _ _ _ ((s.hp.set i o').getD j .dead) _
   rw [getD_set_other _ _ _ _ _ hj]
   refine (h.heap j).later hlat fun q b' hq hb'=>setBlock_other ?_ ob
   rintro rfl
   exact hj (h.inj j i q _ _ hq hp hb' hb)
theorem Rep.newBlk (h:Rep fr ρ s a w) {d:Nat} (hd:dead s d) {ob:Obj} {o':Ob}
  (ho':HRo (w.alloc ob) (Av fr.F (ρ.put d (some (.mapb w.heap.size)))) (ρ.put d (some (.mapb w.heap.size))) o' (some (.mapb w.heap.size))) :
  Rep fr (ρ.put d (some (.mapb w.heap.size))) ⟨s.env,s.hp.set d o'⟩ a (w.alloc ob)∧Later w (Av fr.F ρ) ρ (w.alloc ob) (Av fr.F (ρ.put d (some (.mapb w.heap.size)))) (ρ.put d (some (.mapb w.heap.size))):=by
 have hdl:d<s.hp.length:=(List.getElem?_eq_some_iff.1 hd).1
 have hρd:ρ d=none:=by
  have:=h.heap d
  rw [show s.hp.getD d .dead = .dead by simp [List.getD_eq_getElem?_getD,show s.hp[d]?=some .dead from hd]] at this
  exact this
 have hav:∀ k',k'<w.heap.size→Av fr.F (ρ.put d (some (.mapb w.heap.size))) k'→Av fr.F ρ k':=by
  rintro k' hk' (h1 | ⟨i,p,h1,h2⟩)
  ·exact .inl h1
  ·by_cases hi:i=d
   ·subst hi
    rw [Pl.put_same] at h1
    cases h1
    simp [Place.block] at h2
    omega
   ·rw [Pl.put_ne _ _ hi] at h1
    exact .inr ⟨i,p,h1,h2⟩
 have hlat:Later w (Av fr.F ρ) ρ (w.alloc ob) (Av fr.F (ρ.put d (some (.mapb w.heap.size)))) (ρ.put d (some (.mapb w.heap.size))) :=
  ⟨by simp,hav,fun k' hk' _=>(Go.MapKept.heap_alloc w _).2 k' hk',fun i p hp=>by
   by_cases hi:i=d
   ·subst hi;rw [hρd] at hp;cases hp
   ·rw [Pl.put_ne _ _ hi];exact hp⟩
 refine ⟨{ keep:=⟨h.keep.os,h.keep.tape,h.keep.output,Nat.le_trans h.keep.size (by simp),fun k' hk' hm'=>?_⟩,base:=Nat.le_trans h.base (by simp),defers:=h.defers,heap:=fun i=>?_,inj:=?_,mine:=?_,fF:=h.fF,pin:=fun i hi=>?_,env:=h.env.later _ hlat },hlat⟩
 ·rw [(Go.MapKept.heap_alloc w _).2 k' (Nat.lt_of_lt_of_le hk' h.base)]
  exact h.keep.block k' hk' hm'
 ·by_cases hi:i=d
  ·subst hi
   rw [getD_set_same _ _ _ _ hdl,Pl.put_same]
   exact ho'
  ·show HRo _ _ _ ((s.hp.set d o').getD i .dead) _
   rw [getD_set_other _ _ _ _ _ hi,Pl.put_ne _ _ hi]
   exact (h.heap i).later hlat fun q b hq hb=>(Go.MapKept.heap_alloc w _).2 b (h.lt hq hb)
 ·intro i j p q b hi hj hp hq
  by_cases hid:i=d
  ·by_cases hjd:j=d
   ·rw [hid,hjd]
   ·subst hid
    rw [Pl.put_same] at hi
    cases hi
    rw [Pl.put_ne _ _ hjd] at hj
    simp [Place.block] at hp
    have:=h.lt hj hq
    omega
  ·rw [Pl.put_ne _ _ hid] at hi
   by_cases hjd:j=d
   ·subst hjd
    rw [Pl.put_same] at hj
    cases hj
    simp [Place.block] at hq
    have:=h.lt hi hp
    omega
   ·rw [Pl.put_ne _ _ hjd] at hj
    exact h.inj i j p q b hi hj hp hq
 ·intro i p b hi hp
  by_cases hid:i=d
  ·subst hid
   rw [Pl.put_same] at hi
   cases hi
   simp [Place.block] at hp
   subst hp
   exact .inl h.base
  ·rw [Pl.put_ne _ _ hid] at hi
   exact h.mine i p b hi hp
 ·by_cases hid:i=d
  ·subst hid
   exact absurd hρd (h.pin i hi).2
  ·rw [Pl.put_ne _ _ hid]
   exact h.pin i hi
def makeMapW (ti:TI) (d:Option Nat) (r:Option AV) (s:St) (K:AV→St→Prop):Prop :=
 match ti.d,d,r with
 | .map _ _,some d,none=>dead s d∧K (.mp d) (s.seth d (.map 0 [] []))
 | .map _ _,some d,some (.int _ _)=>dead s d∧K (.mp d) (s.seth d (.map 0 [] []))
 | _,_,_=>False
theorem ok_makeMap (h:Rep fr ρ s a w) {t:TypeId} {r:Option Operand} (ho:o.op = .makeMap t r) {K:AV→St→Prop} (hk:makeMapW (tyOf P t) o.dst (evo s.env r) s K) :
  ∃ z s',K z s'∧VOk P fr a w o z s':=by
 have base:∀ {d:Nat},dead s d→K (.mp d) (s.seth d (.map 0 [] []))→(Instr.makeMap t (r.map a.eval)).run P w = .ok (.map (some w.heap.size)) (w.alloc (.map #[] 0))→∃ z s',K z s'∧VOk P fr a w o z s':=by
  intro d hd hk hrun
  obtain ⟨h1,h2⟩:=h.newBlk hd (ob := .map #[] 0) (o' := .map 0 [] []) ⟨#[],(Go.MapKept.heap_alloc w _).1,rfl,⟨List.nodup_nil,fun x hx=>by cases hx⟩,by simp [entRows,RpR]⟩
  refine ⟨_,_,hk,.map (some w.heap.size),_,_,?_,h1,by simp only [Rp];exact ⟨_,Pl.put_same _ _ _,rfl⟩⟩
  unfold execOp
  simp only [ho]
  simp [hrun]
 unfold makeMapW at hk
 split at hk
 ·rename_i kt et d hd hdst hr
  refine base hk.1 hk.2 ?_
  cases r with
  | none=>rfl
  | some x=>simp [evo] at hr
 ·rename_i kt et d q n hd hdst hr
  refine base hk.1 hk.2 ?_
  cases r with
  | none=>simp [evo] at hr
  | some x =>
   have hu:=tyOf_map hd
   have hx:=ev_sound h.env x
   simp only [evo,Option.map_some,Option.some.injEq] at hr
   rw [hr] at hx
   simp only [Rp] at hx
   show (Instr.makeMap t (some (a.eval x))).run P w=_
   rw [hx]
   unfold Instr.makeMap
   simp only [Sem.run_bind,run_underlying hu,Result.andThen_ok]
   rfl
 ·exact hk.elim
def putW (P:Program) (ti:TI) (m x y:AV) (s:St) (K:St→Prop):Prop :=
 match ti.d,m with
 | .map kt _,.mp i=>match s.hp.getD i .dead with
  | .map clock births rows=>isKeyA (tyOf P kt).d x=true∧y.pure=true∧(match findA (tyOf P kt).d x rows 0 with
   | some (some j)=>K (s.seth i (.map clock births (rows.set j [x,y])))
   | some none=>K (s.seth i (.map (clock+1) (births++[clock]) (rows++[[x,y]])))
   | none=>False)
  | _=>False
 | _,_=>False
theorem run_keyStays {d:TypeDesc} {v:Value} (h:MapKept.IsKey d v):(Instr.keyThatStays v v).run P w = .ok v w:=by
 have:Instr.sameBits 10000 v v=true:=by
  unfold MapKept.IsKey at h
  split at h <;> simp_all [Instr.sameBits,(MapKept.bytes_beq _ _).2]
 simp [Instr.keyThatStays,this]
theorem key_pure {td:TD} {x:AV} (h:isKeyA td x=true):x.pure=true:=by
 unfold isKeyA at h
 split at h
 ·rfl
 ·rfl
 ·cases h
theorem ok_put (h:Rep fr ρ s a w) {t:TypeId} {m x y:Operand} (ho:o.op = .mapUpdate t m x y∨o.op = .insert t m x y) (hdst:o.dst=none) {K:St→Prop} (hk:putW P (tyOf P t) (ev s.env m) (ev s.env x) (ev s.env y) s K) {Q:Exit→Act→World→Prop} :
  o.wp P a w (Ends fr K) Q:=by
 have hm:=ev_sound h.env m
 have hx:=ev_sound h.env x
 have hy:=ev_sound h.env y
 generalize ev s.env m=m' at *
 generalize ev s.env x=x' at *
 generalize ev s.env y=y' at *
 unfold putW at hk
 split at hk
 ·rename_i kt et i hd
  split at hk
  ·rename_i clock births rows hob
   obtain ⟨hkey,hyp,hk⟩:=hk
   have hu:=tyOf_map hd
   obtain ⟨kd,hkd,htd,hik⟩:=isKeyA_sound hkey hx
   have hil:i<s.hp.length:=(List.getElem?_eq_some_iff.1 (getD_live' hob)).1
   have ho1:=h.heap i
   rw [hob] at ho1
   simp only [Rp] at hm
   obtain ⟨b,hp,hv⟩:=hm
   rw [hp] at ho1
   obtain ⟨ents,h2,h3,h4,h5⟩:=ho1
   have hb:b<w.heap.size:=(Array.getElem?_eq_some_iff.1 h2).1
   have hlat:=fun ob=>setBlock_later h hp (show (Place.mapb b).block=some b from rfl) ob
   have hxy:RpR w (Av fr.F ρ) noPl [[x',y']] [[a.eval x,a.eval y]]:=by
    simp only [RpR,Rps]
    exact ⟨_,_,rfl,⟨_,_,rfl,Rp.pure noPl x' (key_pure hkey) hx,_,_,rfl,Rp.pure noPl y' hyp hy,rfl⟩,rfl⟩
   have fin:∀ {ob:Obj} {o':Ob},K (s.seth i o')→HRo (setBlock w b ob) (Av fr.F ρ) ρ o' (some (.mapb b))→(Instr.mapUpdate t (a.eval m) (a.eval x) (a.eval y)).run P w = .ok () (setBlock w b ob)→o.wp P a w (Ends fr K) Q:=by
    intro ob o' hk' hh hrun
    have hrun2:(execOp a.eval o).run P w = .ok .skip (setBlock w b ob):=by
     unfold execOp
     rcases ho with ho | ho <;> (simp only [ho];simp [hrun])
    unfold Oper.wp
    rw [hrun2]
    show Ends fr K (a.put o.dst undef) _
    rw [hdst]
    exact ⟨_,ρ,hk',h.setBlk hil hp rfl hh⟩
   have hck:∀ e,(Instr.checkKey e 10000 kt (a.eval x)).run P w = .ok () w:=fun e=>MapKept.run_checkKey hkd hik e 9999
   split at hk
   ·rename_i j hf
    rcases findA_sound htd hx ents.toList rows 0 h5 hf with ⟨h6,_⟩ | ⟨j',e,h6,h7,h8,h9⟩
    ·cases h6
    ·cases h6
     rw [Nat.zero_add] at *
     have hj:j'<ents.toList.length:=(List.getElem?_eq_some_iff.1 h7).1
     refine fin (ob := .map (ents.modify j' fun e=>{ e with key:=a.eval x,val:=a.eval y }) clock) hk ?_ ?_
     ·refine ⟨_,setBlock_same hb _,?_,h4,?_⟩
      ·rw [← h3,Array.toList_modify]
       exact List.ext_getElem? fun q=>by
        rw [List.getElem?_map,List.getElem?_map,List.getElem?_modify]
        split <;> cases ents.toList[q]? <;> rfl
      ·have hs:=(RpR.later (ρ:=noPl) (ρ':=noPl) _ (hlat (.map (ents.modify j' fun e=>{ e with key:=a.eval x,val:=a.eval y }) clock)).none h5).set j' (RpR.later (ρ:=noPl) (ρ':=noPl) _ (hlat _).none hxy).head
       have:entRows (ents.modify j' fun e=>{ e with key:=a.eval x,val:=a.eval y })=(entRows ents).set j' [a.eval x,a.eval y]:=by
        unfold entRows
        rw [Array.toList_modify]
        refine List.ext_getElem? fun q=>?_
        rw [List.getElem?_map,List.getElem?_modify,List.getElem?_set,List.getElem?_map]
        by_cases hq:j'=q
        ·subst hq
         rw [if_pos rfl,if_pos (by simpa using hj),h7]
         simp
        ·rw [if_neg hq]
         simp only [if_neg hq]
         cases ents.toList[q]? <;> rfl
       rw [this]
       exact hs
     ·rw [hv]
      unfold Instr.mapUpdate
      simp only [Sem.run_bind,run_underlying hu,Result.andThen_ok,MapKept.run_getObj_map h2,hck,MapKept.run_findKey (w:=w) hkd h8]
      have:((ents[j']?).map (·.key)).getD (a.eval x)=a.eval x:=by
       rw [← Array.getElem?_toList,h7]
       exact h9
      rw [this]
      simp only [run_keyStays hik,Result.andThen_ok,MapKept.run_setObj_map _ h2]
      rfl
   ·rename_i hf
    rcases findA_sound htd hx ents.toList rows 0 h5 hf with ⟨_,h8⟩ | ⟨j',e,h6,_⟩
    ·refine fin (ob := .map (ents.push { key:=a.eval x,val:=a.eval y,born:=clock }) (clock+1)) hk ?_ ?_
     ·refine ⟨_,setBlock_same hb _,by simp [h3],⟨?_,?_⟩,?_⟩
      ·rw [List.nodup_append]
       refine ⟨h4.nodup,by simp,fun p hp q hq=>?_⟩
       simp at hq
       subst hq
       have:=h4.lt p hp
       omega
      ·intro p hp
       rcases List.mem_append.1 hp with hp | hp
       ·have:=h4.lt p hp;omega
       ·simp at hp;omega
      ·have hs:=(RpR.later (ρ:=noPl) (ρ':=noPl) _ (hlat (.map (ents.push { key:=a.eval x,val:=a.eval y,born:=clock }) (clock+1))).none h5).append (RpR.later (ρ:=noPl) (ρ':=noPl) _ (hlat _).none hxy)
       have:entRows (ents.push { key:=a.eval x,val:=a.eval y,born:=clock })=entRows ents++[[a.eval x,a.eval y]]:=by simp [entRows]
       rw [this]
       exact hs
     ·rw [hv]
      unfold Instr.mapUpdate
      simp only [Sem.run_bind,run_underlying hu,Result.andThen_ok,MapKept.run_getObj_map h2,hck,MapKept.run_findKey (w:=w) hkd h8,MapKept.run_setObj_map _ h2]
      rfl
    ·cases h6
   ·exact hk.elim
  ·exact hk.elim
 ·exact hk.elim
def delW (P:Program) (ti:TI) (m x:AV) (s:St) (K:St→Prop):Prop :=
 match ti.d,m with
 | .map kt _,.mp i=>match s.hp.getD i .dead with
  | .map clock births rows=>isKeyA (tyOf P kt).d x=true∧(match findA (tyOf P kt).d x rows 0 with
   | some (some j)=>K (s.seth i (.map clock (births.eraseIdx j) (rows.eraseIdx j)))
   | some none=>K (s.seth i (.map clock births rows))
   | none=>False)
  | _=>False
 | _,_=>False
theorem RpR.eraseIdx {w:World} {A:Nat→Prop} {ρ:Pl} {l:List (List AV)} {vs:List (List Value)} (h:RpR w A ρ l vs) (j:Nat):RpR w A ρ (l.eraseIdx j) (vs.eraseIdx j):=by
 rw [List.eraseIdx_eq_take_drop_succ,List.eraseIdx_eq_take_drop_succ]
 exact (h.take j).append (h.drop (j+1))
theorem ok_del (h:Rep fr ρ s a w) {t u:TypeId} {m x:Operand} (ho:o.op = .call { callee := .builtin .delete,args:=#[m,x],argTypes:=#[t,u] }) {K:St→Prop} (hk:delW P (tyOf P t) (ev s.env m) (ev s.env x) s K) :
  ∃ s',K s'∧VOk P fr a w o .any s':=by
 have hm:=ev_sound h.env m
 have hx:=ev_sound h.env x
 generalize ev s.env m=m' at *
 generalize ev s.env x=x' at *
 unfold delW at hk
 split at hk
 ·rename_i kt et i hd
  split at hk
  ·rename_i clock births rows hob
   obtain ⟨hkey,hk⟩:=hk
   have hu:=tyOf_map hd
   obtain ⟨kd,hkd,htd,hik⟩:=isKeyA_sound hkey hx
   have hil:i<s.hp.length:=(List.getElem?_eq_some_iff.1 (getD_live' hob)).1
   have ho1:=h.heap i
   rw [hob] at ho1
   simp only [Rp] at hm
   obtain ⟨b,hp,hv⟩:=hm
   rw [hp] at ho1
   obtain ⟨ents,h2,h3,h4,h5⟩:=ho1
   have hb:b<w.heap.size:=(Array.getElem?_eq_some_iff.1 h2).1
   have hlat:=fun ob=>setBlock_later h hp (show (Place.mapb b).block=some b from rfl) ob
   have fin:∀ {ob:Obj} {o':Ob},K (s.seth i o')→HRo (setBlock w b ob) (Av fr.F ρ) ρ o' (some (.mapb b))→(Builtin.delete_ #[t,u] o.type #[a.eval m,a.eval x]).run P w = .ok (.tuple #[]) (setBlock w b ob)→∃ s',K s'∧VOk P fr a w o .any s':=by
    intro ob o' hk' hh hrun
    refine ⟨_,hk',.tuple #[],_,ρ,?_,h.setBlk hil hp rfl hh,by simp only [Rp]⟩
    unfold execOp
    simp only [ho,resolve,invoke,builtin,Sem.run_bind,Sem.run_pure,Result.andThen_ok,List.map_toArray,List.map_cons,List.map_nil]
    simp [hrun]
   have hck:∀ e,(Instr.checkKey e 10000 kt (a.eval x)).run P w = .ok () w:=fun e=>MapKept.run_checkKey hkd hik e 9999
   split at hk
   ·rename_i j hf
    rcases findA_sound htd hx ents.toList rows 0 h5 hf with ⟨h6,_⟩ | ⟨j',e,h6,h7,h8,h9⟩
    ·cases h6
    ·cases h6
     rw [Nat.zero_add] at *
     have hj:j'<ents.size:=by simpa using (List.getElem?_eq_some_iff.1 h7).1
     have hel:(ents.eraseIdxIfInBounds j').toList=ents.toList.eraseIdx j':=by
      unfold Array.eraseIdxIfInBounds
      rw [dif_pos hj]
      simp
     refine fin (ob := .map (ents.eraseIdxIfInBounds j') clock) hk ?_ ?_
     ·refine ⟨_,setBlock_same hb _,?_,⟨?_,fun q hq=>h4.lt q (List.mem_of_mem_eraseIdx hq)⟩,?_⟩
      ·rw [hel,← h3]
       exact ChangeMaps.map_eraseIdx _ _ _
      ·exact (List.eraseIdx_sublist _ _).nodup h4.nodup
      ·have hs:=(RpR.later (ρ:=noPl) (ρ':=noPl) _ (hlat (.map (ents.eraseIdxIfInBounds j') clock)).none h5).eraseIdx j'
       have:entRows (ents.eraseIdxIfInBounds j')=(entRows ents).eraseIdx j':=by
        unfold entRows
        rw [hel]
        exact ChangeMaps.map_eraseIdx _ _ _
       rw [this]
       exact hs
     ·rw [hv]
      unfold Builtin.delete_
      simp [run_underlying hu,Result.andThen_ok,MapKept.run_getObj_map h2,hck,MapKept.run_findKey (w:=w) hkd h8,MapKept.run_setObj_map _ h2,setBlock]
   ·rename_i hf
    rcases findA_sound htd hx ents.toList rows 0 h5 hf with ⟨_,h8⟩ | ⟨j',e,h6,_⟩
    ·refine fin (ob := .map ents clock) hk ⟨ents,setBlock_same hb _,h3,h4,RpR.later (ρ:=noPl) (ρ':=noPl) _ (hlat _).none h5⟩ ?_
     rw [hv]
     unfold Builtin.delete_
     simp [run_underlying hu,Result.andThen_ok,MapKept.run_getObj_map h2,hck,MapKept.run_findKey (w:=w) hkd h8,MapKept.run_setObj_map _ h2,setBlock]
    ·cases h6
   ·exact hk.elim
  ·exact hk.elim
 ·exact hk.elim
def mapM (m:AV) (hp:List Ob):Option (Nat × List Nat × List (List AV)) :=
 match m with
 | .mp i=>match hp.getD i .dead with
  | .map clock births rows=>some (clock,births,rows)
  | _=>none
 | .md clock births rows=>some (clock,births,rows)
 | _=>none
theorem mapM_sound (h:Rep fr ρ s a w) {m:AV} {v:Value} (hm:Rp w (Av fr.F ρ) ρ m v) {clock:Nat} {births:List Nat} {rows:List (List AV)} (hr:mapM m s.hp=some (clock,births,rows)) :
  ∃ b ents,v = .map (some b)∧w.heap[b]?=some (.map ents clock)∧ents.toList.map (·.born)=births∧Births clock births∧RpR w (Av fr.F ρ) noPl rows (entRows ents):=by
 unfold mapM at hr
 split at hr
 ·rename_i i
  split at hr
  ·rename_i clock' births' rows' hob
   cases hr
   have ho:=h.heap i
   rw [hob] at ho
   simp only [Rp] at hm
   obtain ⟨b,h1,rfl⟩:=hm
   rw [h1] at ho
   obtain ⟨ents,h2,h3,h4,h5⟩:=ho
   exact ⟨b,ents,rfl,h2,h3,h4,h5⟩
  ·cases hr
 ·cases hr
  simp only [Rp] at hm
  obtain ⟨b,ents,rfl,h1,h2,h3,h4,h5,h6⟩:=hm
  exact ⟨b,ents,rfl,h3,h4,h5,h6⟩
 ·cases hr
def rangeW (ti:TI) (d:Option Nat) (m:AV) (s:St) (K:AV→St→Prop):Prop :=
 match ti.d,d,mapM m s.hp with
 | .map _ _,some d,some (clock,_,_)=>dead s d∧K (.it d) (s.seth d (.iter m clock [] clock))
 | _,_,_=>False
theorem ok_range (h:Rep fr ρ s a w) {t:TypeId} {m:Operand} (ho:o.op = .range t m) {K:AV→St→Prop} (hk:rangeW (tyOf P t) o.dst (ev s.env m) s K):∃ z s',K z s'∧VOk P fr a w o z s':=by
 have hm:=ev_sound h.env m
 generalize ev s.env m=m' at *
 unfold rangeW at hk
 split at hk
 ·rename_i kt et d clock births rows hd hdst hmm
  obtain ⟨hdd,hk⟩:=hk
  have hu:=tyOf_map hd
  obtain ⟨b,ents,hv,hb,h3,h4,h5⟩:=mapM_sound h hm hmm
  have hlat:=(h.newBlk hdd (ob := .mapIter (some b) clock #[] clock) (o' := .iter .any clock [] clock) ⟨some b,(Go.MapKept.heap_alloc w _).1,by simp only [Rp]⟩).2
  obtain ⟨h6,_⟩:=h.newBlk hdd (ob := .mapIter (some b) clock #[] clock) (o' := .iter m' clock [] clock) ⟨some b,(Go.MapKept.heap_alloc w _).1,Rp.later m' hlat (by rw [← hv];exact hm)⟩
  refine ⟨_,_,hk,.pointer (some ⟨w.heap.size,0,none⟩),_,_,?_,h6,by simp only [Rp];exact ⟨_,Pl.put_same _ _ _,rfl⟩⟩
  unfold execOp
  simp only [ho,hv]
  have:(Instr.range t (.map (some b))).run P w = .ok (.pointer (some ⟨w.heap.size,0,none⟩)) (w.alloc (.mapIter (some b) clock #[] clock)):=by
   unfold Instr.range
   simp only [Sem.run_bind,run_underlying hu,Result.andThen_ok,MapKept.run_getObj_map hb]
   rfl
  simp [this]
 ·exact hk.elim
def nextW (it:AV) (s:St) (K:AV→St→Prop):Prop :=
 match it with
 | .it i=>match s.hp.getD i .dead with
  | .iter m since seen stepped=>match mapM m s.hp with
   | some (clock,births,rows)=>since≤stepped∧(∀ x∈births,x<since)∧((∀ x∈births,x∈seen)→K (.tup [.bool false]) s) ∧
     (∀ (j:Nat) (x:Nat),births[j]?=some x→x∉seen→K (.tup [.bool true,(rows.getD j []).getD 0 .any,(rows.getD j []).getD 1 .any]) (s.seth i (.iter m since (seen++[x]) clock)))
   | none=>False
  | _=>False
 | _=>False
theorem getD_iter {hp:List Ob} {i:Nat} {m:AV} {since:Nat} {seen:List Nat} {stepped:Nat} (h:hp.getD i .dead = .iter m since seen stepped):hp[i]?=some (.iter m since seen stepped):=by
 rw [List.getD_eq_getElem?_getD] at h
 cases hi:hp[i]? with
 | none=>rw [hi] at h;cases h
 | some x=>rw [hi] at h;exact congrArg some h
theorem ok_next (h:Rep fr ρ s a w) {it:Operand} (ho:o.op = .next it false) {K:AV→St→Prop} (hk:nextW (ev s.env it) s K):∃ z s',K z s'∧VOk P fr a w o z s':=by
 have hi:=ev_sound h.env it
 generalize ev s.env it=it' at *
 unfold nextW at hk
 split at hk
 ·rename_i i
  split at hk
  ·rename_i m since seen stepped hob
   split at hk
   ·rename_i clock births rows hmm
    obtain ⟨hss,hbs,hk0,hk1⟩:=hk
    have hil:i<s.hp.length:=(List.getElem?_eq_some_iff.1 (getD_iter hob)).1
    have ho1:=h.heap i
    rw [hob] at ho1
    simp only [Rp] at hi
    obtain ⟨r,hp,hv⟩:=hi
    rw [hp] at ho1
    obtain ⟨x,h1,h2⟩:=ho1
    obtain ⟨b,ents,hxb,hb,h3,h4,h5⟩:=mapM_sound h h2 hmm
    cases hxb
    have hold:∀ x∈ents.toList,x.born<since:=fun x hx=>hbs _ (by rw [← h3];exact List.mem_map_of_mem hx)
    rcases run_next_at (P:=P) w o.type r b since stepped seen.toArray ents clock h1 hb hold hss with ⟨h6,hrun⟩ | ⟨e,he,w1,hw1,hrun⟩
    ·have hall:=all_seen ents seen.toArray h6
     refine ⟨_,_,hk0 (fun y hy=>?_),.tuple #[.bool false],w,ρ,?_,h,?_⟩
     ·rw [← h3,List.mem_map] at hy
      obtain ⟨e,he,rfl⟩:=hy
      have:=hall e he
      simpa using this
     ·unfold execOp
      simp only [ho,hv]
      simp [hrun]
     ·simp only [Rp,Rps]
      exact ⟨_,rfl,_,_,rfl,rfl,rfl⟩
    ·obtain ⟨he1,he2⟩:=mem_left he
     obtain ⟨j,hj⟩:=List.getElem?_of_mem he1
     have hbj:births[j]?=some e.born:=by rw [← h3,List.getElem?_map,hj];rfl
     have hns:e.born∉seen:=by
      intro hm
      have:seen.toArray.contains e.born=true:=by simpa using hm
      rw [this] at he2
      cases he2
     have hjl:j<rows.length:=by
      have e1:=h5.length
      have e2:=(List.getElem?_eq_some_iff.1 hj).1
      simp [entRows] at e1 e2
      omega
     obtain ⟨u,hu1,hu2⟩:=h5.get (show rows[j]?=some (rows.getD j []) by simp [List.getD_eq_getElem?_getD,hjl])
     rw [entRows,List.getElem?_map,hj] at hu1
     cases hu1
     have hr1:Rep fr ρ s a w1:=by
      rcases hw1 with rfl | rfl
      ·exact h
      ·exact h.heapEq rfl rfl rfl rfl
     have hh1:w1.heap=w.heap:=by rcases hw1 with rfl | rfl <;> rfl
     have hlat:=setBlock_later hr1 hp (show (Place.mapb r).block=some r from rfl) (.mapIter (some b) since (seen.toArray.push e.born) clock)
     have hsz:r<w1.heap.size:=by rw [hh1];exact (Array.getElem?_eq_some_iff.1 h1).1
     have hl0:Later w (Av fr.F ρ) ρ w1 (Av fr.F ρ) ρ:=⟨by rw [hh1];exact Nat.le_refl _,fun _ _ h=>h,fun _ _ _=>by rw [hh1],fun _ _ h=>h⟩
     have hres:=hr1.setBlk hil hp rfl (ob := .mapIter (some b) since (seen.toArray.push e.born) clock) (o' := .iter m since (seen++[e.born]) clock)
      ⟨some b,by rw [setBlock_same hsz];simp,Rp.later m hlat (Rp.later m hl0 h2)⟩
     refine ⟨_,_,hk1 j e.born hbj hns,.tuple #[.bool true,e.key,e.val],_,ρ,?_,hres,?_⟩
     ·unfold execOp
      simp only [ho,hv]
      simp [hrun]
     ·have hkv:Rp w (Av fr.F ρ) noPl ((rows.getD j []).getD 0 .any) e.key∧Rp w (Av fr.F ρ) noPl ((rows.getD j []).getD 1 .any) e.val:=by
       generalize rows.getD j []=row at hu2
       match row,hu2 with
       | [],hu2=>simp [Rps] at hu2
       | [_],hu2=>simp [Rps] at hu2
       | z0::z1::_,hu2 =>
        simp only [Rps,List.cons.injEq] at hu2
        obtain ⟨_,_,⟨rfl,rfl⟩,h7,v,us,⟨rfl,_⟩,h8,_⟩:=hu2
        exact ⟨h7,h8⟩
      have hlt:Later w (Av fr.F ρ) noPl (setBlock w1 r (.mapIter (some b) since (seen.toArray.push e.born) clock)) (Av fr.F ρ) ρ :=
       ⟨Nat.le_trans hl0.size hlat.size,fun _ _ h=>h,fun k' hk' hn=>(hlat.mem k' (by rw [hh1];exact hk') hn).trans (by rw [hh1]),fun _ _ h=>by cases h⟩
      simp only [Rp,Rps]
      exact ⟨_,rfl,_,_,rfl,rfl,_,_,rfl,Rp.later _ hlt hkv.1,_,_,rfl,Rp.later _ hlt hkv.2,rfl⟩
   ·exact hk.elim
  ·exact hk.elim
 ·exact hk.elim
def entryW (it:AV) (s:St) (K:AV→Prop):Prop :=
 match it with
 | .it i=>match s.hp.getD i .dead with
  | .iter m since seen stepped=>match mapM m s.hp with
   | some (clock,births,rows)=>clock=stepped∧∃ (j x:Nat),seen.getLast?=some x∧births[j]?=some x∧K (.tup [(rows.getD j []).getD 0 .any,(rows.getD j []).getD 1 .any])
   | none=>False
  | _=>False
 | _=>False
theorem ok_entry (h:Rep fr ρ s a w) {it:Operand} (ho:o.op = .entry it) {K:AV→Prop} (hk:entryW (ev s.env it) s K):∃ z,K z∧VOk P fr a w o z s:=by
 have hi:=ev_sound h.env it
 generalize ev s.env it=it' at *
 unfold entryW at hk
 split at hk
 ·rename_i i
  split at hk
  ·rename_i m since seen stepped hob
   split at hk
   ·rename_i clock births rows hmm
    obtain ⟨hst,j,x,hlast,hbj,hk⟩:=hk
    have ho1:=h.heap i
    rw [hob] at ho1
    simp only [Rp] at hi
    obtain ⟨r,hp,hv⟩:=hi
    rw [hp] at ho1
    obtain ⟨y,h1,h2⟩:=ho1
    obtain ⟨b,ents,hxb,hb,h3,h4,h5⟩:=mapM_sound h h2 hmm
    cases hxb
    rw [← h3,List.getElem?_map] at hbj
    cases hj:ents.toList[j]? with
    | none=>rw [hj] at hbj;cases hbj
    | some e =>
     rw [hj] at hbj
     simp only [Option.map_some,Option.some.injEq] at hbj
     have hjl:j<rows.length:=by
      have e1:=h5.length
      have e2:=(List.getElem?_eq_some_iff.1 hj).1
      simp [entRows] at e1 e2
      omega
     obtain ⟨u,hu1,hu2⟩:=h5.get (show rows[j]?=some (rows.getD j []) by simp [List.getD_eq_getElem?_getD,hjl])
     rw [entRows,List.getElem?_map,hj] at hu1
     cases hu1
     have hback:seen.toArray.back?=some x:=by simpa using hlast
     have hfind:ents.find? (fun e=>e.born == x)=some e:=by
      rw [← Array.find?_toList]
      have hnd:(ents.toList.map (·.born)).Nodup:=by rw [h3];exact h4.nodup
      have hmem:e∈ents.toList:=List.mem_of_getElem? hj
      have key:∀ l:List MapEntry,(l.map (·.born)).Nodup→e∈l→l.find? (fun e=>e.born == x)=some e:=by
       intro l
       induction l with
       | nil=>intro _ hm;cases hm
       | cons f l ih =>
        intro hn hm
        rw [List.map_cons,List.nodup_cons] at hn
        rw [List.find?_cons]
        rcases List.mem_cons.1 hm with rfl | hm
        ·simp [hbj]
        ·have:(f.born == x)=false:=by
          rw [beq_eq_false_iff_ne]
          rintro he
          exact hn.1 (by rw [he,← hbj];exact List.mem_map_of_mem hm)
         rw [this]
         exact ih hn.2 hm
      exact key _ hnd hmem
     refine ⟨_,hk,.tuple #[e.key,e.val],w,ρ,?_,h,?_⟩
     ·unfold execOp
      simp only [ho,hv]
      simp [Instr.entry,getObj,Sem.run_bind,Sem.run,h1,hb,Result.andThen,hback,hst,hfind]
     ·have hkv:Rp w (Av fr.F ρ) noPl ((rows.getD j []).getD 0 .any) e.key∧Rp w (Av fr.F ρ) noPl ((rows.getD j []).getD 1 .any) e.val:=by
       generalize rows.getD j []=row at hu2
       match row,hu2 with
       | [],hu2=>simp [Rps] at hu2
       | [_],hu2=>simp [Rps] at hu2
       | z0::z1::_,hu2 =>
        simp only [Rps,List.cons.injEq] at hu2
        obtain ⟨_,_,⟨rfl,rfl⟩,h7,v,us,⟨rfl,_⟩,h8,_⟩:=hu2
        exact ⟨h7,h8⟩
      simp only [Rp,Rps]
      exact ⟨_,rfl,_,_,rfl,Rp.later _ (noPl_later ρ) hkv.1,_,_,rfl,Rp.later _ (noPl_later ρ) hkv.2,rfl⟩
   ·exact hk.elim
  ·exact hk.elim
 ·exact hk.elim
end
end Go.Proofs.YtjmkfbhecgkbmaaGreat.Vm
namespace Go.Proofs.YtjmkfbhecgkbmaaGreat.Vm
open Go
def CallOk (P:Program) (pins:List Nat) (g:FuncId) (avs:List AV) (s:St) (K:AV→St→Prop):Prop :=
 ∀ (fr:Fr) (ρ:Pl) (a:Act) (w:World) (vals:List Value),fr.pins=pins→Rep fr ρ s a w→Rps w (Av fr.F ρ) ρ avs vals →
  Calls P g vals.toArray w fun e w'=>∃ v x s' ρ',e = .returned v∧K x s'∧Rep fr ρ' s' a w'∧Rp w' (Av fr.F ρ') ρ' x v
def enters (P:Program) (g:FuncId):Bool :=
 match P.funcs[g]? with
 | some fn => !(fn.name == "runtime.NumGoroutine") && fn.body.isSome
 | none=>false
theorem run_callFunc {P:Program} {g:FuncId} (h:enters P g=true) (args:Array Value) (w:World):(callFunc g args).run P w = .ok (.enter g args) w:=by
 unfold enters at h
 unfold callFunc
 cases hf:P.funcs[g]? with
 | none=>rw [hf] at h;cases h
 | some fn =>
  rw [hf] at h
  simp only [Bool.and_eq_true,Bool.not_eq_true',beq_eq_false_iff_ne,ne_eq] at h
  obtain ⟨c,hb⟩:=Option.isSome_iff_exists.1 h.2
  simp [hf,h.1,hb]
section
variable {P:Program} {pins:List Nat}
def opW (P:Program) (pins:List Nat) (o:Oper) (s:St) (K:St→Prop):Prop :=
 match o.op with
 | .move x=>K (s.ret o.dst (ev s.env x))
 | .assign x=>K (s.ret o.dst (ev s.env x))
 | .pick c x y=>pickW (ev s.env c) (ev s.env x) (ev s.env y) fun z=>K (s.ret o.dst z)
 | .alloc t=>match o.dst with
  | some d=>dead s d∧(tyOf P t).d ≠ .no∧(tyOf P t).hz=true∧K ((s.seth d (.arr t (tyOf P t).zero.length false [(tyOf P t).zero])).ret (some d) (.ptr d 0 0))
  | none=>False
 | .box t x=>match o.dst with
  | some d=>dead s d∧storable (ev s.env x)=true∧K ((s.seth d (.arr t (cellsOf (ev s.env x)).length false [cellsOf (ev s.env x)])).ret (some d) (.ptr d 0 0))
  | none=>False
 | .build t ps=>buildW P (tyOf P t) (ps.toList.map fun p=>(p.1,ev s.env p.2)) fun z=>K (s.ret o.dst z)
 | .buildSlice t len ps=>litW P (tyOf P t) o.dst len (ps.toList.map fun p=>(p.1,ev s.env p.2)) s fun z s'=>K (s'.ret o.dst z)
 | .load t x=>(tyOf P t).d ≠ .no∧((tyOf P t).isAgg=true∨(tyOf P t).size=1)∧loadW (tyOf P t) (ev s.env x) s.hp fun z=>K (s.ret o.dst z)
 | .store t x y=>o.dst=none∧(tyOf P t).d ≠ .no∧storeW (tyOf P t) (ev s.env x) (ev s.env y) s K
 | .nilCheck x=>nilCheckW (ev s.env x) fun z=>K (s.ret o.dst z)
 | .binOp op t x y _=>binW P (tyOf P t) op (ev s.env x) (ev s.env y) fun z=>K (s.ret o.dst z)
 | .unOp op _ x=>unW op (ev s.env x) fun z=>K (s.ret o.dst z)
 | .convert t u x=>convW (tyOf P t) (tyOf P u) (ev s.env x) fun z=>K (s.ret o.dst z)
 | .makeSlice t x y=>makeW P (tyOf P t) o.dst (ev s.env x) (ev s.env y) s fun z s'=>K (s'.ret o.dst z)
 | .slice t x lo hi mx=>sliceW P (tyOf P t) (ev s.env x) (evo s.env lo) (evo s.env hi) (evo s.env mx) s.hp fun z=>K (s.ret o.dst z)
 | .fieldAddr t x f=>fieldAddrW P (tyOf P t) (ev s.env x) f fun z=>K (s.ret o.dst z)
 | .field t x f=>fieldW P (tyOf P t) (ev s.env x) f fun z=>K (s.ret o.dst z)
 | .indexAddr t x y=>indexAddrW P (tyOf P t) (ev s.env x) (ev s.env y) s.hp fun z=>K (s.ret o.dst z)
 | .index t x y=>indexW P (tyOf P t) (ev s.env x) (ev s.env y) fun z=>K (s.ret o.dst z)
 | .extract x i=>extractW (ev s.env x) i fun z=>K (s.ret o.dst z)
 | .makeFunc f first cap=>K (s.ret o.dst (.fn f (first.toList.map (ev s.env)) (cap.toList.map (ev s.env))))
 | .lookup t m x c=>lookW P (tyOf P t) (ev s.env m) (ev s.env x) c s.hp fun z=>K (s.ret o.dst z)
 | .mapUpdate t m x y=>o.dst=none∧putW P (tyOf P t) (ev s.env m) (ev s.env x) (ev s.env y) s K
 | .insert t m x y=>o.dst=none∧putW P (tyOf P t) (ev s.env m) (ev s.env x) (ev s.env y) s K
 | .makeMap t r=>makeMapW (tyOf P t) o.dst (evo s.env r) s fun z s'=>K (s'.ret o.dst z)
 | .range t m=>rangeW (tyOf P t) o.dst (ev s.env m) s fun z s'=>K (s'.ret o.dst z)
 | .next it false=>nextW (ev s.env it) s fun z s'=>K (s'.ret o.dst z)
 | .entry it=>entryW (ev s.env it) s fun z=>K (s.ret o.dst z)
 | .call ⟨.builtin .len,⟨[x]⟩,⟨[t]⟩⟩=>lenW (tyOf P t) (ev s.env x) fun z=>K (s.ret o.dst z)
 | .call ⟨.builtin .append,⟨[x,y]⟩,⟨[t,u]⟩⟩=>t=u∧appendW P (tyOf P t) pins o.dst (ev s.env x) (ev s.env y) s fun z s'=>K (s'.ret o.dst z)
 | .call ⟨.builtin .copy,⟨[x,y]⟩,⟨[t,u]⟩⟩=>copyW P (tyOf P t) (ev s.env x) (ev s.env y) s fun z s'=>K (s'.ret o.dst z)
 | .call ⟨.builtin .clear,⟨[x]⟩,⟨[t]⟩⟩=>clearW P (tyOf P t) (ev s.env x) s fun s'=>K (s'.ret o.dst .any)
 | .call ⟨.builtin .delete,⟨[m,x]⟩,⟨[t,_]⟩⟩=>delW P (tyOf P t) (ev s.env m) (ev s.env x) s fun s'=>K (s'.ret o.dst .any)
 | .call ⟨.value f,⟨xs⟩,_⟩=>match ev s.env f with
  | .fn (.func g) first cap=>enters P g=true∧CallOk P pins g (first++xs.map (ev s.env)++cap) s fun z s'=>K (s'.ret o.dst z)
  | _=>False
 | _=>False
theorem wp_of_val {fr:Fr} {a:Act} {w:World} {o:Oper} {s:St} {K:St→Prop} {Q:Exit→Act→World→Prop} (h:∃ z,K (s.ret o.dst z)∧VOk P fr a w o z s):o.wp P a w (Ends fr K) Q:=by
 obtain ⟨z,h1,h2⟩:=h
 exact h2.wp h1
theorem wp_of_val2 {fr:Fr} {a:Act} {w:World} {o:Oper} {K:St→Prop} {Q:Exit→Act→World→Prop} (h:∃ z s',K (s'.ret o.dst z)∧VOk P fr a w o z s'):o.wp P a w (Ends fr K) Q:=by
 obtain ⟨z,s',h1,h2⟩:=h
 exact h2.wp h1
theorem Rps_map {w:World} {A:Nat→Prop} {ρ:Pl} {e:List AV} {a:Act} (h:Rps w A ρ e a.tmps.toList):∀ l:List Operand,Rps w A ρ (l.map (ev e)) (l.map a.eval)
 | []=>by simp only [List.map_nil,Rps]
 | x::l=>by simp only [List.map_cons,Rps];exact ⟨_,_,rfl,ev_sound h x,Rps_map h l⟩
theorem opW_sound {fr:Fr} {ρ:Pl} {s:St} {a:Act} {w:World} {o:Oper} {K:St→Prop} {Q:Exit→Act→World→Prop} (hp:fr.pins=pins) (h:Rep fr ρ s a w) (hk:opW P pins o s K):o.wp P a w (Ends fr K) Q:=by
 subst hp
 unfold opW at hk
 split at hk
 ·rename_i x ho
  exact (ok_move h x (.inl ho)).wp hk
 ·rename_i x ho
  exact (ok_move h x (.inr ho)).wp hk
 ·rename_i c x y ho
  exact wp_of_val (ok_pick h c x y ho hk)
 ·rename_i t ho
  split at hk
  ·rename_i d hd
   obtain ⟨h1,h2,h3,h4⟩:=hk
   refine (ok_alloc h hd h1 ho h2 h3).wp ?_
   rw [hd]
   exact h4
  ·exact hk.elim
 ·rename_i t x ho
  split at hk
  ·rename_i d hd
   obtain ⟨h1,h2,h4⟩:=hk
   refine (ok_box h hd h1 ho h2).wp ?_
   rw [hd]
   exact h4
  ·exact hk.elim
 ·rename_i t ps ho
  exact wp_of_val (ok_build h ho hk)
 ·rename_i t len ps ho
  exact wp_of_val2 (ok_lit h ho hk)
 ·rename_i t x ho
  exact wp_of_val (ok_load h ho hk.1 hk.2.1 hk.2.2)
 ·rename_i t x y ho
  exact ok_store h ho hk.1 hk.2.1 hk.2.2
 ·rename_i x ho
  exact wp_of_val (ok_nilCheck h ho hk)
 ·rename_i op t x y ty ho
  exact wp_of_val (ok_bin h ho hk)
 ·rename_i op t x ho
  exact wp_of_val (ok_un h ho hk)
 ·rename_i t u x ho
  exact wp_of_val (ok_conv h ho hk)
 ·rename_i t x y ho
  exact wp_of_val2 (ok_make h ho hk)
 ·rename_i t x lo hi mx ho
  exact wp_of_val (ok_slice h ho hk)
 ·rename_i t x f ho
  exact wp_of_val (ok_fieldAddr h ho hk)
 ·rename_i t x f ho
  exact wp_of_val (ok_field h ho hk)
 ·rename_i t x y ho
  exact wp_of_val (ok_indexAddr h ho hk)
 ·rename_i t x y ho
  exact wp_of_val (ok_index h ho hk)
 ·rename_i x i ho
  exact wp_of_val (ok_extract h ho hk)
 ·rename_i f first cap ho
  refine VOk.wp ⟨.func f (first.map a.eval) (cap.map a.eval),w,ρ,?_,h,?_⟩ hk
  ·unfold execOp
   simp only [ho]
   rfl
  ·simp only [Rp]
   exact ⟨first.toList.map a.eval,cap.toList.map a.eval,by rw [← Array.toList_map,← Array.toList_map,Array.toArray_toList,Array.toArray_toList],Rps_map h.env _,Rps_map h.env _⟩
 ·rename_i t m x c ho
  exact wp_of_val (ok_lookup h ho hk)
 ·rename_i t m x y ho
  exact ok_put h (.inl ho) hk.1 hk.2
 ·rename_i t m x y ho
  exact ok_put h (.inr ho) hk.1 hk.2
 ·rename_i t r ho
  exact wp_of_val2 (ok_makeMap h ho hk)
 ·rename_i t m ho
  exact wp_of_val2 (ok_range h ho hk)
 ·rename_i it ho
  exact wp_of_val2 (ok_next h ho hk)
 ·rename_i it ho
  exact wp_of_val (ok_entry h ho hk)
 ·rename_i x t ho
  exact wp_of_val (ok_len h ho hk)
 ·rename_i x y t u ho
  obtain ⟨rfl,hk⟩:=hk
  exact wp_of_val2 (ok_append h ho hk)
 ·rename_i x y t u ho
  exact wp_of_val2 (ok_copy h ho hk)
 ·rename_i x t ho
  obtain ⟨s',h1,h2⟩:=ok_clear h ho hk
  exact wp_of_val2 ⟨.any,s',h1,h2⟩
 ·rename_i m x t u ho
  obtain ⟨s',h1,h2⟩:=ok_del h ho hk
  exact wp_of_val2 ⟨.any,s',h1,h2⟩
 ·rename_i f xs tys ho
  split at hk
  ·rename_i g first cap hf
   obtain ⟨hent,hk⟩:=hk
   have hf':=ev_sound h.env f
   rw [hf] at hf'
   simp only [Rp] at hf'
   obtain ⟨us,vs,he,hus,hvs⟩:=hf'
   have hargs:Rps w (Av fr.F ρ) ρ (first++xs.map (ev s.env)++cap) (us++xs.map a.eval++vs):=(hus.append (Rps_map h.env xs)).append hvs
   have hc:=hk fr ρ a w _ rfl h hargs
   have hrun:(execOp a.eval o).run P w = .ok (.enter g (us++xs.map a.eval++vs).toArray) w:=by
    unfold execOp
    simp only [ho,resolve,he,Deferred.ofValue]
    simp only [Sem.run_bind,Sem.run_pure,Result.andThen_ok,invoke]
    have:=run_callFunc (P:=P) hent (us.toArray++(xs.map a.eval).toArray++vs.toArray) w
    simpa using this
   unfold Oper.wp
   rw [hrun]
   refine hc.mono fun e w' hr=>?_
   obtain ⟨v,x,s',ρ',rfl,h1,h2,h3⟩:=hr
   exact ⟨_,ρ',h1,h2.put o.dst h3⟩
  ·exact hk.elim
 ·exact hk.elim
def guardOf (ops:Array Oper) (e:List AV) (j:Nat):AV :=
 match (ops[j]?).bind (·.dst) with
 | some d=>e.getD d .und
 | none => .und
def St.known (s:St) (ops:Array Oper) (j:Nat) (b:Bool):St :=
 match (ops[j]?).bind (·.dst) with
 | some d=>⟨s.env.set d (.bool b),s.hp⟩
 | none=>s
theorem known_eq {ops:Array Oper} {s:St} {j:Nat} {b:Bool} (h:guardOf ops s.env j = .bool b):s.known ops j b=s:=by
 unfold guardOf at h
 unfold St.known
 cases hd:(ops[j]?).bind (·.dst) with
 | none=>rfl
 | some d =>
  rw [hd] at h
  simp only [List.getD_eq_getElem?_getD] at h
  have:s.env.set d (.bool b)=s.env:=by
   refine List.ext_getElem? fun i=>?_
   rw [List.getElem?_set]
   split
   ·rename_i hi
    subst hi
    cases he:s.env[d]? with
    | none=>rw [he] at h;simp at h
    | some x =>
     rw [he] at h
     simp at h
     subst h
     simp [(List.getElem?_eq_some_iff.1 he).1]
   ·rfl
  simp only [this]
def opsW (P:Program) (pins:List Nat) (ops:Array Oper):List Oper→St→(St→Prop)→Prop
 | [],s,K=>K s
 | o::rest,s,K=>match o.guard with
  | none=>opW P pins o s fun s'=>opsW P pins ops rest s' K
  | some (j,want)=>match guardOf ops s.env j with
   | .bool b=>(b=want→opW P pins o (s.known ops j want) fun s'=>opsW P pins ops rest s' K)∧(b=(!want)→opsW P pins ops rest ((s.known ops j (!want)).ret o.dst .und) K)
   | .und=>opsW P pins ops rest (s.ret o.dst .und) K
   | _=>False
theorem guard_sound {ops:Array Oper} {w:World} {A:Nat→Prop} {ρ:Pl} {e:List AV} {a:Act} (h:Rps w A ρ e a.tmps.toList) (j:Nat) :
  (∀ b,guardOf ops e j = .bool b→yielded ops a.tmps j=some b)∧(guardOf ops e j = .und→yielded ops a.tmps j=none):=by
 unfold guardOf yielded
 cases hd:(ops[j]?).bind (·.dst) with
 | none=>simp
 | some d =>
  simp only [Option.bind_some,List.getD_eq_getElem?_getD]
  cases he:e[d]? with
  | none =>
   have:a.tmps[d]?=none:=by
    rw [Array.getElem?_eq_none_iff]
    have:=h.length
    rw [List.getElem?_eq_none_iff] at he
    simp at this
    omega
   simp [this]
  | some x =>
   obtain ⟨v,hv,hr⟩:=h.get he
   have hv':a.tmps[d]?=some v:=by simpa using hv
   rw [hv']
   refine ⟨fun b hb=>?_,fun hb=>?_⟩
   ·simp at hb;subst hb;simp only [Rp] at hr;subst hr;rfl
   ·simp at hb;subst hb;simp only [Rp] at hr;subst hr;rfl
theorem Ends.mono {fr:Fr} {K K':St→Prop} {a:Act} {w:World} (h:Ends fr K a w) (hk:∀ s,K s→K' s):Ends fr K' a w:=by
 obtain ⟨s,ρ,h1,h2⟩:=h
 exact ⟨s,ρ,hk s h1,h2⟩
theorem opsW_sound {ops:Array Oper} {fr:Fr} (hp:fr.pins=pins) {K:St→Prop} {Q:Exit→Act→World→Prop} (hQ:∀ a w,Ends fr K a w→Q .normal a w):∀ (l:List Oper) (s:St) (a:Act) (w:World) (ρ:Pl),Rep fr ρ s a w→opsW P pins ops l s K→wpList P ops Q l a w
 | [],s,a,w,ρ,h,hk=>hQ a w ⟨s,ρ,hk,h⟩
 | o::rest,s,a,w,ρ,h,hk=>by
  unfold opsW at hk
  have step:∀ (hw:Region.wanted o (yielded ops a.tmps)=true),(opW P pins o s fun s'=>opsW P pins ops rest s' K)→wpList P ops Q (o::rest) a w:=by
   intro hw hk
   have h1:=opW_sound (Q:=Q) hp h hk
   unfold wpList
   rw [if_pos hw]
   refine .inl (Oper.wp_mono (fun a' w' he=>?_) h1)
   obtain ⟨s',ρ',h2,h3⟩:=he
   exact opsW_sound hp hQ rest s' a' w' ρ' h3 h2
  have skip:∀ (hw:Region.wanted o (yielded ops a.tmps)=false),opsW P pins ops rest (s.ret o.dst .und) K→wpList P ops Q (o::rest) a w:=by
   intro hw hk
   unfold wpList
   rw [if_neg (by rw [hw];simp)]
   exact opsW_sound hp hQ rest _ _ w ρ (h.put o.dst (x := .und) (v:=undef) (by simp only [Rp])) hk
  split at hk
  ·rename_i hg
   exact step (by simp [Region.wanted,hg]) hk
  ·rename_i j want hg
   obtain ⟨g1,g2⟩:=guard_sound (ops:=ops) h.env j
   split at hk
   ·rename_i b hb
    have hy:=g1 b hb
    by_cases hbw:b=want
    ·have h1:=hk.1 hbw
     rw [← hbw,known_eq hb] at h1
     exact step (by simp [Region.wanted,hg,hy,hbw]) h1
    ·have hb2:b=!want:=by cases b <;> cases want <;> simp_all
     have h2:=hk.2 hb2
     rw [← hb2,known_eq hb] at h2
     refine skip ?_ h2
     rw [hb2] at hy
     simp [Region.wanted,hg,hy]
   ·rename_i hb
    have hy:=g2 hb
    exact skip (by simp [Region.wanted,hg,hy]) hk
   ·exact hk.elim
def W (P:Program) (pins:List Nat) (c:Code) (Q:Exit→St→Prop) (s:St):Prop :=
 ∀ (fr:Fr) (ρ:Pl) (a:Act) (w:World),fr.pins=pins→Rep fr ρ s a w→c.wp P (fun e a' w'=>Ends fr (Q e) a' w') a w
theorem W.mono {c:Code} {Q Q':Exit→St→Prop} {s:St} (h:W P pins c Q s) (hq:∀ e s,Q e s→Q' e s):W P pins c Q' s :=
 fun fr ρ a w hp hr=>Code.wp_mono (fun e a w he=>he.mono (hq e)) (h fr ρ a w hp hr)
theorem W_skip {Q:Exit→St→Prop} {s:St} (h:Q .normal s):W P pins .skip Q s:=fun fr ρ a w hp hr=>wp_skip ⟨s,ρ,h,hr⟩
theorem W_ret {Q:Exit→St→Prop} {s:St} (h:Q .ret s):W P pins .ret Q s:=fun fr ρ a w hp hr=>wp_ret ⟨s,ρ,h,hr⟩
theorem W_exit {i:Nat} {Q:Exit→St→Prop} {s:St} (h:Q (.exit i) s):W P pins (.exit i) Q s:=fun fr ρ a w hp hr=>wp_exit ⟨s,ρ,h,hr⟩
def thenW (next:St→Prop) (Q:Exit→St→Prop):Exit→St→Prop
 | .normal,s=>next s
 | e,s=>Q e s
theorem W_seq {x y:Code} {Q:Exit→St→Prop} {s:St} (h:W P pins x (thenW (W P pins y Q) Q) s):W P pins (.seq x y) Q s:=by
 intro fr ρ a w hp hr
 refine wp_seq (Code.wp_mono (fun e a' w' he=>?_) (h fr ρ a w hp hr))
 cases e with
 | normal =>
  obtain ⟨s',ρ',h1,h2⟩:=he
  exact h1 fr ρ' a' w' hp h2
 | _=>exact he
theorem W_cond {c:Operand} {x y:Code} {Q:Exit→St→Prop} {s:St} {t:Bool} (hc:ev s.env c = .bool t) (ht:t=true→W P pins x Q s) (hf:t=false→W P pins y Q s):W P pins (.cond c x y) Q s:=by
 intro fr ρ a w hp hr
 have h1:=ev_sound hr.env c
 rw [hc] at h1
 simp only [Rp] at h1
 exact wp_cond_split h1 (fun h=>ht h fr ρ a w hp hr) (fun h=>hf h fr ρ a w hp hr)
theorem W_ct {c:Operand} {x y:Code} {Q:Exit→St→Prop} {s:St} (hc:ev s.env c = .bool true) (ht:W P pins x Q s):W P pins (.cond c x y) Q s:=W_cond hc (fun _=>ht) (fun h=>by cases h)
theorem W_cf {c:Operand} {x y:Code} {Q:Exit→St→Prop} {s:St} (hc:ev s.env c = .bool false) (hf:W P pins y Q s):W P pins (.cond c x y) Q s:=W_cond hc (fun h=>by cases h) (fun _=>hf)
def blockW (i:Nat) (Q:Exit→St→Prop):Exit→St→Prop
 | .exit j,s=>if j=i then Q .normal s else Q (.exit j) s
 | e,s=>Q e s
theorem W_block {i:Nat} {c:Code} {Q:Exit→St→Prop} {s:St} (h:W P pins c (blockW i Q) s):W P pins (.block i c) Q s:=by
 intro fr ρ a w hp hr
 refine wp_block (Code.wp_mono (fun e a' w' he=>?_) (h fr ρ a w hp hr))
 cases e with
 | exit j =>
  simp only [Exit.inBlock]
  obtain ⟨s',ρ',h1,h2⟩:=he
  simp only [blockW] at h1
  split
  ·rename_i hj;rw [if_pos hj] at h1;exact ⟨s',ρ',h1,h2⟩
  ·rename_i hj;rw [if_neg hj] at h1;exact ⟨s',ρ',h1,h2⟩
 | _=>exact he
theorem W_region {i:Nat} {ops:Array Oper} {Q:Exit→St→Prop} {s:St} (h:opsW P pins ops ops.toList s (Q .normal)):W P pins (.region i ops false) Q s:=by
 intro fr ρ a w hp hr
 exact wp_region_list (opsW_sound hp (fun a w he=>he) ops.toList s a w ρ hr h)
theorem wp_loop_rel {ι:Type} {c:Code} {Q:Exit→Act→World→Prop} (I:ι→Act→World→Prop) (μ:ι→Nat)
  (round:∀ i a w,I i a w→c.wp P (Exit.then (fun a' w'=>∃ j,I j a' w'∧μ j<μ i) Q) a w) (i:ι) {a:Act} {w:World} (h:I i a w):(Code.loop c).wp P Q a w:=by
 intro b k cs
 have key:∀ n i a w,μ i=n→I i a w→∃ e a' w',Q e a' w'∧Arrives P (lone (b.at a (.code c::.inLoop c::k)) cs w) b k cs e a' w':=by
  intro n
  induction n using Nat.strongRecOn with
  | _ n ih =>
   intro i a w hn hI
   obtain ⟨e,a₁,w₁,hq,harr⟩:=round i a w hI b (.inLoop c::k) cs
   cases e with
   | normal =>
    obtain ⟨j,hI₁,hlt⟩:=hq
    obtain ⟨e₂,a₂,w₂,hq₂,harr₂⟩:=ih (μ j) (hn ▸ hlt) j a₁ w₁ rfl hI₁
    exact ⟨e₂,a₂,w₂,hq₂,.of_steps (Steps.trans harr (.one step_inLoop)) harr₂⟩
   | exit id=>exact ⟨_,a₁,w₁,hq,.pass (x := .inLoop c) rfl (fun _ _ => .inl (by simp)) harr⟩
   | goto l=>exact ⟨_,a₁,w₁,hq,.pass (x := .inLoop c) rfl (fun _ _ => .inl (by simp)) harr⟩
   | ret=>exact ⟨_,a₁,w₁,hq,.pass (x := .inLoop c) rfl (fun _ _ => .inl (by simp)) harr⟩
   | panic ch=>exact ⟨_,a₁,w₁,hq,.pass (x := .inLoop c) rfl (fun _ _ => .inl (by simp)) harr⟩
   | outgrown=>exact ⟨_,a₁,w₁,hq,.pass (x := .inLoop c) rfl (fun _ _ => .inl (by simp)) harr⟩
 obtain ⟨e,a',w',hq,harr⟩:=key _ i a w rfl h
 exact ⟨e,a',w',hq,.of_steps (.one step_loop) harr⟩
def Le (pins:List Nat) (s s':St):Prop:=∀ (fr:Fr) (ρ:Pl) (a:Act) (w:World),fr.pins=pins→Rep fr ρ s a w→∃ ρ',Rep fr ρ' s' a w
theorem Le.refl (s:St):Le pins s s:=fun fr ρ a w _ h=>⟨ρ,h⟩
theorem Le.trans {s t u:St} (h:Le pins s t) (h':Le pins t u):Le pins s u:=fun fr ρ a w hp hr=>by
 obtain ⟨ρ',h1⟩:=h fr ρ a w hp hr
 exact h' fr ρ' a w hp h1
theorem W.le {c:Code} {Q:Exit→St→Prop} {s s':St} (h:W P pins c Q s') (hle:Le pins s s'):W P pins c Q s:=fun fr ρ a w hp hr=>by
 obtain ⟨ρ',h1⟩:=hle fr ρ a w hp hr
 exact h fr ρ' a w hp h1
theorem W_loop {ι:Type} {c:Code} {Q:Exit→St→Prop} (S:ι→St) (μ:ι→Nat) (i:ι) {s:St} (h0:Le pins s (S i))
  (round:∀ i,W P pins c (thenW (fun s'=>∃ j,Le pins s' (S j)∧μ j<μ i) Q) (S i)):W P pins (.loop c) Q s:=by
 intro fr ρ a w hp hr
 obtain ⟨ρ0,hr0⟩:=h0 fr ρ a w hp hr
 refine wp_loop_rel (fun i a w=>∃ ρ,Rep fr ρ (S i) a w) μ ?_ i ⟨ρ0,hr0⟩
 rintro i a w ⟨ρ,hr⟩
 refine Code.wp_mono (fun e a' w' he=>?_) (round i fr ρ a w hp hr)
 cases e with
 | normal =>
  obtain ⟨s',ρ',⟨j,h1,h2⟩,h3⟩:=he
  exact ⟨j,h1 fr ρ' a' w' hp h3,h2⟩
 | _=>exact he
end
end Go.Proofs.YtjmkfbhecgkbmaaGreat.Vm
namespace Go.Proofs.YtjmkfbhecgkbmaaGreat.Vm
open Go Go.RowKit
mutual
def view (hp:List Ob):Nat→AV→AV
 | _,.nils => .sl []
 | n,.sref i off m=>match hp.getD i .dead with
  | .arr _ _ true rows => .sl ((rows.drop off).take m)
  | .arr _ _ false rows=>match n with
   | n+1 => .sl (((rows.drop off).take m).map (views hp n))
   | 0 => .any
  | _ => .any
 | _,.ptr _ _ _ => .any
 | _,.mp i=>match hp.getD i .dead with
  | .map clock births rows => .md clock births rows
  | _ => .any
 | _,.it _ => .any
 | n,.agg cs => .agg (views hp n cs)
 | n,.tup cs => .tup (views hp n cs)
 | n,.fn f fs cs => .fn f (views hp n fs) (views hp n cs)
 | n,.ifc t x => .ifc t (view hp n x)
 | _,x=>x
def views (hp:List Ob):Nat→List AV→List AV
 | _,[]=>[]
 | n,x::xs=>view hp n x::views hp n xs
end
def AV.flat:AV→Bool
 | .int _ _ | .bool _ | .str _ | .und | .nilp | .nilif | .nilfn | .nilmp | .nils | .gl _=>true
 | .tup l=>l.all fun x=>match x with | .int _ _ | .bool _ | .str _ | .und | .nilp | .nilif | .nilfn | .nilmp | .nils=>true | _=>false
 | _=>false
structure AsData (w:World) (F:Nat→Prop) (ρ:Pl) (hp:List Ob):Prop where
 obj:∀ i,HRo w (Av F ρ) ρ (hp.getD i .dead) (ρ i)
 lt:∀ i p b,ρ i=some p→p.block=some b→b<w.heap.size
 free:∀ i p b,ρ i=some p→p.block=some b→¬ F b
theorem lat_F {w:World} {F:Nat→Prop} {ρ:Pl}:Later w (Av F ρ) noPl w F noPl:=⟨Nat.le_refl _,fun _ _ h => .inl h,fun _ _ _=>rfl,fun _ _ h=>h⟩
mutual
theorem view_sound {w:World} {F:Nat→Prop} {ρ:Pl} {hp:List Ob} (H:AsData w F ρ hp):∀ (n:Nat) (x:AV) {v:Value},Rp w (Av F ρ) ρ x v→Rp w F noPl (view hp n x) v
 | n,.any,_,h=>by simp only [view,Rp]
 | n,.und,_,h=>by simpa only [view,Rp] using h
 | n,.int _ _,_,h=>by simpa only [view,Rp] using h
 | n,.bool _,_,h=>by simpa only [view,Rp] using h
 | n,.str _,_,h=>by simpa only [view,Rp] using h
 | n,.nils,_,h=>by
  simp only [view,Rp] at h ⊢
  exact ⟨none,0,h,by simp,by simp,.inl trivial⟩
 | n,.sl rows,v,h=>by
  have:=Rp.later (ρ:=noPl) (ρ':=noPl) (.sl rows) (lat_F (ρ:=ρ)) (by simpa only [Rp] using h)
  simpa only [view,Rp] using this
 | n,.ia row off,v,h=>by
  have:=Rp.later (ρ:=noPl) (ρ':=noPl) (.ia row off) (lat_F (ρ:=ρ)) (by simpa only [Rp] using h)
  simpa only [view,Rp] using this
 | n,.sref i off m,v,h=>by
  simp only [view]
  split
  ·rename_i T k rows hob
   have ho:=H.obj i
   rw [hob] at ho
   simp only [Rp] at h ⊢
   rcases h with ⟨h1,rfl,rfl,rfl⟩ | ⟨b,s',cap,len,x,h1,h2,rfl,h4⟩
   ·exact ⟨none,0,by simp,by simp,by simp,.inl (by simp)⟩
   ·have hlt:=H.lt i _ b h1 rfl
    have hfr:=H.free i _ b h1 rfl
    rw [h1] at ho
    obtain ⟨_,hlen0,hh⟩:=ho
    obtain ⟨vss,hr,hlens,hcells⟩:=hh.cells
    have hcap:=hh.cap
    have hmax:cap≤maxLen:=by obtain ⟨_,_,_,_,_,_,_,hm⟩:=hh;exact hm
    have hl:((rows.drop off).take m).length=m:=by simp;omega
    rw [hl]
    refine ⟨_,_,rfl,by omega,by omega,?_⟩
    by_cases hm:m=0
    ·exact .inl (List.eq_nil_of_length_eq_zero (by omega))
    ·refine .inr ⟨b,x,(vss.drop off).take m,rfl,hfr,hlt,?_,(((show RpR w (Av F ρ) noPl rows vss from hr).later _ lat_F).drop off).take m⟩
     intro j u hj
     rw [h4 (.inl (by omega))]
     have:=hcells _ u (flatten_drop_at hlens off m j hj)
     rwa [Nat.zero_add] at this
  ·rename_i T k rows hob
   split
   ·rename_i n'
    have ho:=H.obj i
    rw [hob] at ho
    simp only [Rp] at h ⊢
    rcases h with ⟨h1,rfl,rfl,rfl⟩ | ⟨b,s',cap,len,x,h1,h2,rfl,h4⟩
    ·exact ⟨none,0,by simp,by simp,by simp,.inl (by simp)⟩
    ·have hlt:=H.lt i _ b h1 rfl
     have hfr:=H.free i _ b h1 rfl
     rw [h1] at ho
     obtain ⟨_,hlen0,hh⟩:=ho
     obtain ⟨vss,hr,hlens,hcells⟩:=hh.cells
     have hcap:=hh.cap
     have hmax:cap≤maxLen:=by obtain ⟨_,_,_,_,_,_,_,hm⟩:=hh;exact hm
     have hl:(((rows.drop off).take m).map (views hp n')).length=m:=by simp;omega
     rw [hl]
     refine ⟨_,_,rfl,by omega,by omega,?_⟩
     by_cases hm:m=0
     ·exact .inl (List.eq_nil_of_length_eq_zero (by omega))
     ·refine .inr ⟨b,x,(vss.drop off).take m,rfl,hfr,hlt,?_,?_⟩
      ·intro j u hj
       rw [h4 (.inl (by omega))]
       have:=hcells _ u (flatten_drop_at hlens off m j hj)
       rwa [Nat.zero_add] at this
      ·have hr2:=((show RpR w (Av F ρ) ρ rows vss from hr).drop off).take m
       refine RpR.mk (by simp [hr.length]) fun j y u hy hu=>?_
       rw [List.getElem?_map] at hy
       cases hj:((rows.drop off).take m)[j]? with
       | none=>rw [hj] at hy;cases hy
       | some r =>
        rw [hj] at hy
        cases hy
        obtain ⟨u',hu',hr3⟩:=hr2.get hj
        rw [hu] at hu'
        cases hu'
        exact views_sound H n' r hr3
   ·simp only [Rp]
  ·simp only [Rp]
 | n,.ptr _ _ _,_,h=>by simp only [view,Rp]
 | n,.nilp,_,h=>by simpa only [view,Rp] using h
 | n,.agg cs,v,h=>by
  simp only [view,Rp] at h ⊢
  obtain ⟨vs,h1,h2⟩:=h
  exact ⟨vs,h1,views_sound H n cs h2⟩
 | n,.tup cs,v,h=>by
  simp only [view,Rp] at h ⊢
  obtain ⟨vs,h1,h2⟩:=h
  exact ⟨vs,h1,views_sound H n cs h2⟩
 | n,.fn f fs cs,v,h=>by
  simp only [view,Rp] at h ⊢
  obtain ⟨us,vs,h1,h2,h3⟩:=h
  exact ⟨us,vs,h1,views_sound H n fs h2,views_sound H n cs h3⟩
 | n,.nilfn,_,h=>by simpa only [view,Rp] using h
 | n,.ifc t x,v,h=>by
  simp only [view,Rp] at h ⊢
  obtain ⟨y,h1,h2⟩:=h
  exact ⟨y,h1,view_sound H n x h2⟩
 | n,.nilif,_,h=>by simpa only [view,Rp] using h
 | n,.gl _,_,h=>by simpa only [view,Rp] using h
 | n,.mp i,v,h=>by
  simp only [view]
  split
  ·rename_i clock births rows hob
   have ho:=H.obj i
   rw [hob] at ho
   simp only [Rp] at h ⊢
   obtain ⟨b,h1,rfl⟩:=h
   rw [h1] at ho
   obtain ⟨ents,h2,h3,h4,h5⟩:=ho
   exact ⟨b,ents,rfl,H.free i _ b h1 rfl,H.lt i _ b h1 rfl,h2,h3,h4,h5.later _ lat_F⟩
  ·simp only [Rp]
 | n,.it _,_,h=>by simp only [view,Rp]
 | n,.md clock births rows,v,h=>by
  have:=Rp.later (ρ:=noPl) (ρ':=noPl) (.md clock births rows) (lat_F (ρ:=ρ)) (by simpa only [Rp] using h)
  simpa only [view,Rp] using this
 | n,.nilmp,_,h=>by simpa only [view,Rp] using h
theorem views_sound {w:World} {F:Nat→Prop} {ρ:Pl} {hp:List Ob} (H:AsData w F ρ hp):∀ (n:Nat) (l:List AV) {vs:List Value},Rps w (Av F ρ) ρ l vs→Rps w F noPl (views hp n l) vs
 | n,[],_,h=>by simpa only [views,Rps] using h
 | n,x::xs,vs,h=>by
  simp only [views,Rps] at h ⊢
  obtain ⟨v,us,h1,h2,h3⟩:=h
  exact ⟨v,us,h1,view_sound H n x h2,views_sound H n xs h3⟩
end
def Pure (P:Program) (g:FuncId) (args:List AV) (R:AV→Prop):Prop :=
 ∀ (w:World) (vals:List Value) (F:Nat→Prop),(∀ k,F k→k<w.heap.size)→Rps w F noPl args vals →
  Calls P g vals.toArray w fun e w'=>∃ v r,e = .returned v∧R r∧Below w.heap.size w w'∧Rp w' F noPl r v
theorem Pure.mono {P:Program} {g:FuncId} {args:List AV} {R R':AV→Prop} (h:Pure P g args R) (hr:∀ r,R r→R' r):Pure P g args R':=by
 intro w vals F hF hv
 refine (h w vals F hF hv).mono fun e w' he=>?_
 obtain ⟨v,r,h1,h2,h3⟩:=he
 exact ⟨v,r,h1,hr r h2,h3⟩
def resV (P:Program) (s:St) (r:ResultVar) (K:AV→Prop):Prop :=
 match r with
 | .tmp t=>K (s.env.getD t .any)
 | .cell ad t=>(tyOf P t).d ≠ .no∧((tyOf P t).isAgg=true∨(tyOf P t).size=1)∧loadW (tyOf P t) (s.env.getD ad .any) s.hp K
def resW (P:Program) (s:St):List ResultVar→(List AV→Prop)→Prop
 | [],K=>K []
 | r::rs,K=>resV P s r fun x=>resW P s rs fun xs=>K (x::xs)
def asOne:List AV→AV
 | [x]=>x
 | xs => .tup xs
def retQ (P:Program) (fn:Func) (R:AV→Prop):Exit→St→Prop
 | .normal,s=>resW P s fn.results.toList fun xs=>R (view s.hp 3 (asOne xs))
 | .ret,s=>resW P s fn.results.toList fun xs=>R (view s.hp 3 (asOne xs))
 | _,_=>False
def rdV (a:Act) (r:ResultVar):Sem Value :=
 match r with
 | .tmp t=>pure (a.tmps.getD t undef)
 | .cell ad t=>do loadVar t (← asAddr (a.tmps.getD ad undef))
theorem resV_sound {P:Program} {fr:Fr} {ρ:Pl} {s:St} {a:Act} {w:World} (h:Rep fr ρ s a w) {r:ResultVar} {K:AV→Prop} (hk:resV P s r K) :
  ∃ x v,K x∧(rdV a r).run P w = .ok v w∧Rp w (Av fr.F ρ) ρ x v:=by
 cases r with
 | tmp t=>exact ⟨_,_,hk,rfl,ev_sound h.env (.tmp t)⟩
 | cell ad t =>
  obtain ⟨h1,h2,hk⟩:=hk
  obtain ⟨z,b,q,v,hz,he,hrun,hr⟩:=load_core h (ev_sound h.env (.tmp ad)) h1 h2 hk
  refine ⟨z,v,hz,?_,hr⟩
  have he':a.tmps.getD ad undef = .pointer (some ⟨b,q,none⟩):=he
  simp only [rdV,he',asAddr,Sem.run_bind,Sem.run_pure,Result.andThen_ok]
  exact hrun
theorem resW_sound {P:Program} {fr:Fr} {ρ:Pl} {s:St} {a:Act} {w:World} (h:Rep fr ρ s a w):∀ (rs:List ResultVar) {K:List AV→Prop},resW P s rs K →
  ∃ xs vs,K xs∧(rs.mapM (rdV a)).run P w = .ok vs w∧Rps w (Av fr.F ρ) ρ xs vs
 | [],K,hk=>⟨[],[],hk,by simp,by simp only [Rps]⟩
 | r::rs,K,hk=>by
  obtain ⟨x,v,hk1,hr1,hr2⟩:=resV_sound h (show resV P s r _ from hk)
  obtain ⟨xs,vs,hk2,hr3,hr4⟩:=resW_sound h rs hk1
  refine ⟨x::xs,v::vs,hk2,?_,by simp only [Rps];exact ⟨v,vs,rfl,hr2,hr4⟩⟩
  simp only [List.mapM_cons,Sem.run_bind,hr1,Result.andThen_ok,hr3,Sem.run_pure]
theorem results_eq (fn:Func) (a:Act):results fn a.tmps=(do let vs ← fn.results.mapM (rdV a);pure (if h:vs.size=1 then vs[0] else .tuple vs)):=by
 unfold results
 congr 1
theorem results_sound {P:Program} {fr:Fr} {ρ:Pl} {s:St} {a:Act} {w:World} (h:Rep fr ρ s a w) (fn:Func) {K:List AV→Prop} (hk:resW P s fn.results.toList K) :
  ∃ xs v,K xs∧(results fn a.tmps).run P w = .ok v w∧Rp w (Av fr.F ρ) ρ (asOne xs) v:=by
 obtain ⟨xs,vs,h1,h2,h3⟩:=resW_sound h fn.results.toList hk
 refine ⟨xs,if h:vs.toArray.size=1 then vs.toArray[0] else .tuple vs.toArray,h1,?_,?_⟩
 ·rw [results_eq,Array.mapM_eq_mapM_toList]
  simp only [Sem.run_bind,Sem.run_map,h2,Result.andThen_ok,Sem.run_pure]
 ·have hl:=h3.length
  match xs,vs,hl,h3 with
  | [x],[v],_,h3 =>
   simp only [Rps] at h3
   obtain ⟨v',us,h4,h5,h6⟩:=h3
   cases h4
   simpa [asOne] using h5
  | [],[],_,_=>simp [asOne,Rp,Rps]
  | x::y::xs,v::u::vs,_,h3 =>
   simp only [asOne,Rp]
   exact ⟨v::u::vs,by simp,h3⟩
theorem pure_of_W {P:Program} {g:FuncId} {fn:Func} {c:Code} {args:List AV} {R:AV→Prop} (hf:P.funcs[g]?=some fn) (hb:fn.body=some c)
  (h:W P [] c (retQ P fn R) ⟨args++List.replicate (fn.ntmps-args.length) .und,List.replicate fn.ntmps .dead⟩):Pure P g args R:=by
 intro w vals F hF hv
 have hlen:=hv.length
 refine calls_of_wp hf hb ?_
 let fr:Fr:=⟨w.heap.size,w,F,fun _=>False,[],noPl,fun _ _ h=>h⟩
 have hA:Av F noPl=F:=by
  funext k
  simp [Av,noPl]
 have hrep:Rep fr noPl ⟨args++List.replicate (fn.ntmps-args.length) .und,List.replicate fn.ntmps .dead⟩ { tmps:=vals.toArray++Array.replicate (fn.ntmps-vals.toArray.size) undef,defers:=[] } w:=by
  refine { keep:=⟨rfl,rfl,rfl,Nat.le_refl _,fun _ _ _=>rfl⟩,base:=Nat.le_refl _,defers:=rfl,heap:=fun i=>?_,inj:=(fun i j p q b hi=>by cases hi),mine:=(fun i p b hi=>by cases hi),fF:=hF,pin:=(fun i hi=>by cases hi),env:=?_ }
  ·show HRo _ _ _ ((List.replicate fn.ntmps Ob.dead).getD i .dead) _
   rw [show (List.replicate fn.ntmps Ob.dead).getD i .dead = .dead by
    rw [List.getD_eq_getElem?_getD,List.getElem?_replicate];split <;> rfl]
   rfl
  ·show Rps w (Av F noPl) noPl _ _
   rw [hA]
   have h1:(vals.toArray++Array.replicate (fn.ntmps-vals.toArray.size) undef).toList=vals++List.replicate (fn.ntmps-args.length) undef:=by
    simp [hlen]
   rw [h1]
   refine hv.append (Rps.mk (by simp) fun i x v hx hv=>?_)
   rw [List.getElem?_replicate] at hx hv
   split at hx
   ·rename_i hi;rw [if_pos hi] at hv;cases hx;cases hv;simp only [Rp]
   ·cases hx
 refine Code.wp_mono (fun e a' w' he=>?_) (h fr noPl _ w rfl hrep)
 obtain ⟨s,ρ,hq,hr⟩:=he
 have fin:resW P s fn.results.toList (fun xs=>R (view s.hp 3 (asOne xs)))→a'.defers=[]∧∃ v,(results fn a'.tmps).run P w' = .ok v w'∧∃ v2 r,Ending.returned v = .returned v2∧R r∧Below w.heap.size w w'∧Rp w' F noPl r v2:=by
  intro hk
  obtain ⟨xs,v,h1,h2,h3⟩:=results_sound hr fn hk
  refine ⟨hr.defers,v,h2,v,_,rfl,h1,⟨hr.keep.os,hr.keep.tape,hr.keep.output,hr.keep.size,fun k hk=>hr.keep.block k hk (fun h=>h)⟩,?_⟩
  refine view_sound ⟨hr.heap,fun i p b hi hb=>hr.lt hi hb,fun i p b hi hb hFb=>?_⟩ 3 _ h3
  rcases hr.mine i p b hi hb with h4 | h4
  ·have:=hF b hFb
   have h5:w.heap.size≤b:=h4
   omega
  ·exact h4
 cases e with
 | normal=>exact fin hq
 | ret=>exact fin hq
 | _=>exact hq.elim
theorem flat_any {w w':World} {A A':Nat→Prop} {ρ ρ':Pl}:∀ (x:AV) {v:Value},x.flat=true→Rp w A ρ x v→Rp w' A' ρ' x v
 | .und,_,_,h=>by simpa only [Rp] using h
 | .int _ _,_,_,h=>by simpa only [Rp] using h
 | .bool _,_,_,h=>by simpa only [Rp] using h
 | .str _,_,_,h=>by simpa only [Rp] using h
 | .nils,_,_,h=>by simpa only [Rp] using h
 | .nilp,_,_,h=>by simpa only [Rp] using h
 | .nilif,_,_,h=>by simpa only [Rp] using h
 | .nilfn,_,_,h=>by simpa only [Rp] using h
 | .nilmp,_,_,h=>by simpa only [Rp] using h
 | .gl _,_,_,h=>by simpa only [Rp] using h
 | .tup l,v,hf,h=>by
  simp only [Rp] at h ⊢
  obtain ⟨vs,h1,h2⟩:=h
  refine ⟨vs,h1,Rps.mk h2.length fun i x u hx hu=>?_⟩
  obtain ⟨u',hu',hr⟩:=h2.get hx
  rw [hu] at hu'
  cases hu'
  simp only [AV.flat,List.all_eq_true] at hf
  have hm:=hf x (List.mem_of_getElem? hx)
  cases x <;> simp at hm <;> simpa only [Rp] using hr
theorem Rep.below {fr:Fr} {ρ:Pl} {s:St} {a:Act} {w w':World} (h:Rep fr ρ s a w) (hb:Below w.heap.size w w'):Rep fr ρ s a w'∧Later w (Av fr.F ρ) ρ w' (Av fr.F ρ) ρ:=by
 have hlat:Later w (Av fr.F ρ) ρ w' (Av fr.F ρ) ρ:=⟨hb.size,fun _ _ h=>h,fun k hk _=>hb.block k hk,fun _ _ h=>h⟩
 refine ⟨{ keep:=⟨hb.os.trans h.keep.os,hb.tape.trans h.keep.tape,hb.output.trans h.keep.output,Nat.le_trans h.keep.size hb.size,fun k hk hm=>?_⟩,base:=Nat.le_trans h.base hb.size,defers:=h.defers,heap:=fun i=>?_,inj:=h.inj,mine:=h.mine,fF:=h.fF,pin:=h.pin,env:=h.env.later _ hlat },hlat⟩
 ·rw [hb.block k (Nat.lt_of_lt_of_le hk h.base)]
  exact h.keep.block k hk hm
 ·exact (h.heap i).later hlat fun q b hq hb'=>hb.block b (h.lt hq hb')
mutual
def AV.data:AV→AV
 | .nils => .sl []
 | .agg cs => .agg (AV.datas cs)
 | .tup cs => .tup (AV.datas cs)
 | .fn f fs cs => .fn f (AV.datas fs) (AV.datas cs)
 | .ifc t x => .ifc t (AV.data x)
 | x=>x
def AV.datas:List AV→List AV
 | []=>[]
 | x::xs=>AV.data x::AV.datas xs
end
mutual
theorem Rp.data {w:World} {A:Nat→Prop} {ρ:Pl}:∀ (x:AV) {v:Value},Rp w A ρ x v→Rp w A ρ x.data v
 | .nils,_,h=>by
  simp only [AV.data,Rp] at h ⊢
  exact ⟨none,0,h,by simp,by simp,.inl trivial⟩
 | .agg cs,v,h=>by
  simp only [AV.data,Rp] at h ⊢
  obtain ⟨vs,h1,h2⟩:=h
  exact ⟨vs,h1,Rps.data cs h2⟩
 | .tup cs,v,h=>by
  simp only [AV.data,Rp] at h ⊢
  obtain ⟨vs,h1,h2⟩:=h
  exact ⟨vs,h1,Rps.data cs h2⟩
 | .fn f fs cs,v,h=>by
  simp only [AV.data,Rp] at h ⊢
  obtain ⟨us,vs,h1,h2,h3⟩:=h
  exact ⟨us,vs,h1,Rps.data fs h2,Rps.data cs h3⟩
 | .ifc t x,v,h=>by
  simp only [AV.data,Rp] at h ⊢
  obtain ⟨y,h1,h2⟩:=h
  exact ⟨y,h1,Rp.data x h2⟩
 | .any,_,h=>h
 | .und,_,h=>h
 | .int _ _,_,h=>h
 | .bool _,_,h=>h
 | .str _,_,h=>h
 | .sl _,_,h=>h
 | .ia _ _,_,h=>h
 | .sref _ _ _,_,h=>h
 | .ptr _ _ _,_,h=>h
 | .nilp,_,h=>h
 | .nilfn,_,h=>h
 | .nilif,_,h=>h
 | .gl _,_,h=>h
 | .mp _,_,h=>h
 | .nilmp,_,h=>h
 | .it _,_,h=>h
 | .md _ _ _,_,h=>h
theorem Rps.data {w:World} {A:Nat→Prop} {ρ:Pl}:∀ (l:List AV) {vs:List Value},Rps w A ρ l vs→Rps w A ρ (AV.datas l) vs
 | [],_,h=>h
 | x::xs,vs,h=>by
  simp only [AV.datas,Rps] at h ⊢
  obtain ⟨v,us,h1,h2,h3⟩:=h
  exact ⟨v,us,h1,Rp.data x h2,Rps.data xs h3⟩
end
theorem call_pure {P:Program} {pins:List Nat} {g:FuncId} {avs:List AV} {s:St} {K:AV→St→Prop} {R:AV→Prop} (ha:AV.pures avs=true) (hpure:Pure P g (AV.datas avs) R) (hk:∀ r,R r→K r s):CallOk P pins g avs s K:=by
 intro fr ρ a w vals hp hr hv
 refine (hpure w vals (Av fr.F ρ) ?_ (Rps.data avs (Rps.pure noPl avs ha hv))).mono fun e w' he=>?_
 ·rintro k (hk | ⟨i,p,h1,h2⟩)
  ·exact Nat.lt_of_lt_of_le (hr.fF k hk) hr.base
  ·exact hr.lt h1 h2
 obtain ⟨v,r,h1,h2,h3,h4⟩:=he
 exact ⟨v,r,s,ρ,h1,hk r h2,(hr.below h3).1,h4.later r (noPl_later ρ)⟩
end Go.Proofs.YtjmkfbhecgkbmaaGreat.Vm
namespace Go.Proofs.YtjmkfbhecgkbmaaGreat.Vm
open Go
section
variable {P:Program} {pins:List Nat} {Q:Exit→St→Prop} {s:St} {x y z:Code} {i:Nat} {ops:Array Oper}
theorem W_seqR (h:∀ K:St→Prop,(∀ s,W P pins y Q s→K s)→opsW P pins ops ops.toList s K):W P pins (.seq (.region i ops false) y) Q s :=
 W_seq (W_region (h (W P pins y Q) fun _ h=>h))
theorem W_regR (h:∀ K:St→Prop,(∀ s,Q .normal s→K s)→opsW P pins ops ops.toList s K):W P pins (.region i ops false) Q s :=
 W_region (h (Q .normal) fun _ h=>h)
theorem W_join (T:St→Prop) (h:W P pins x (thenW T Q) s) (hz:∀ s',T s'→W P pins z Q s'):W P pins (.seq x z) Q s :=
 W_seq (h.mono fun e s' he=>by
  cases e with
  | normal=>exact hz s' he
  | _=>exact he)
end
def leE:List AV→List AV→Prop
 | [],[]=>True
 | x::xs,y::ys=>(y = .any∨x=y)∧leE xs ys
 | _,_=>False
theorem leE_sound {w:World} {A:Nat→Prop} {ρ:Pl}:∀ {l m:List AV} {vs:List Value},leE l m→Rps w A ρ l vs→Rps w A ρ m vs
 | [],[],_,_,h=>h
 | [],_::_,_,h,_=>h.elim
 | _::_,[],_,h,_=>h.elim
 | x::xs,y::ys,vs,hl,h=>by
  simp only [Rps] at h ⊢
  obtain ⟨v,us,h1,h2,h3⟩:=h
  refine ⟨v,us,h1,?_,leE_sound hl.2 h3⟩
  rcases hl.1 with rfl | rfl
  ·simp only [Rp]
  ·exact h2
theorem Le_env {pins:List Nat} {e e':List AV} {hp:List Ob} (h:leE e e'):Le pins ⟨e,hp⟩ ⟨e',hp⟩:=fun fr ρ a w _ hr =>
 ⟨ρ,{ keep:=hr.keep,base:=hr.base,defers:=hr.defers,heap:=hr.heap,inj:=hr.inj,mine:=hr.mine,fF:=hr.fF,pin:=hr.pin,env:=leE_sound h hr.env }⟩
theorem Le_of {pins:List Nat} {s s':St} (h:leE s.env s'.env) (hh:s.hp=s'.hp):Le pins s s':=by
 cases s;cases s'
 cases hh
 exact Le_env h
theorem Le_freeze {pins:List Nat} {s:St} (i:Nat) {T:TypeId} {k:Nat} {pf:Bool} {rows:List (List AV)} (hi:s.hp[i]?=some (.arr T k pf rows)) (hpin:i∉pins) (hpure:pf=true∨AllPure rows):Le pins s (s.freeze i rows) :=
 fun fr ρ a w hp hr=>⟨_,hr.freeze hi (hp ▸ hpin) hpure⟩
theorem wrap_i64 {x:Int} (h1 : -9223372036854775808≤x) (h2:x<9223372036854775808):IntKind.wrap .i64 x=x:=by
 have h3:IntKind.wrap .i64 x=if x%18446744073709551616≥9223372036854775808 then x%18446744073709551616-18446744073709551616 else x%18446744073709551616:=by
  unfold IntKind.wrap
  simp [IntKind.bits,IntKind.signed]
 rw [h3]
 split <;> omega
theorem wrap_u64 {x:Int} (h1:0≤x) (h2:x<18446744073709551616):IntKind.wrap .u64 x=x:=by
 simp only [IntKind.wrap,IntKind.bits,IntKind.signed,Bool.false_and,Bool.false_eq_true,if_false]
 omega
mutual
theorem Rp.noName {w:World} {A:Nat→Prop} {ρ:Pl} {d:Nat} {rows:List (List AV)} (hd:ρ d=none):∀ (x:AV) {v:Value},Rp w A ρ x v→x.froz d rows=x
 | .any,_,h=>rfl
 | .und,_,h=>rfl
 | .int _ _,_,h=>rfl
 | .bool _,_,h=>rfl
 | .str _,_,h=>rfl
 | .nils,_,h=>rfl
 | .sl _,_,h=>rfl
 | .ia _ _,_,h=>rfl
 | .sref j off n,v,h=>by
  simp only [Rp] at h
  simp only [AV.froz]
  split
  ·rename_i hj;subst hj;rcases h with ⟨h1,_⟩ | ⟨b,s,cap,len,x,h1,_⟩ <;> (rw [hd] at h1;cases h1)
  ·rfl
 | .ptr j r off,v,h=>by
  simp only [Rp] at h
  simp only [AV.froz]
  split
  ·rename_i hj;subst hj;obtain ⟨b,s,cap,len,h1,_⟩:=h;rw [hd] at h1;cases h1
  ·rfl
 | .nilp,_,h=>rfl
 | .agg cs,v,h=>by
  simp only [Rp] at h
  obtain ⟨vs,_,h2⟩:=h
  simp only [AV.froz,Rps.noName hd cs h2]
 | .tup cs,v,h=>by
  simp only [Rp] at h
  obtain ⟨vs,_,h2⟩:=h
  simp only [AV.froz,Rps.noName hd cs h2]
 | .fn f fs cs,v,h=>by
  simp only [Rp] at h
  obtain ⟨us,vs,_,h2,h3⟩:=h
  simp only [AV.froz,Rps.noName hd fs h2,Rps.noName hd cs h3]
 | .nilfn,_,h=>rfl
 | .ifc t x,v,h=>by
  simp only [Rp] at h
  obtain ⟨y,_,h2⟩:=h
  simp only [AV.froz,Rp.noName hd x h2]
 | .nilif,_,h=>rfl
 | .gl _,_,h=>rfl
 | .mp j,v,h=>by
  simp only [Rp] at h
  simp only [AV.froz]
  split
  ·rename_i hj;subst hj;obtain ⟨b,h1,_⟩:=h;rw [hd] at h1;cases h1
  ·rfl
 | .nilmp,_,h=>rfl
 | .it j,v,h=>by
  simp only [Rp] at h
  simp only [AV.froz]
  split
  ·rename_i hj;subst hj;obtain ⟨b,h1,_⟩:=h;rw [hd] at h1;cases h1
  ·rfl
 | .md _ _ _,_,h=>rfl
theorem Rps.noName {w:World} {A:Nat→Prop} {ρ:Pl} {d:Nat} {rows:List (List AV)} (hd:ρ d=none):∀ (l:List AV) {vs:List Value},Rps w A ρ l vs→AV.frozs d rows l=l
 | [],_,h=>rfl
 | x::xs,vs,h=>by
  simp only [Rps] at h
  obtain ⟨v,us,_,h2,h3⟩:=h
  simp only [AV.frozs,Rp.noName hd x h2,Rps.noName hd xs h3]
end
theorem RpR.noName {w:World} {A:Nat→Prop} {ρ:Pl} {d:Nat} {rows:List (List AV)} (hd:ρ d=none):∀ {l:List (List AV)} {vs:List (List Value)},RpR w A ρ l vs→l.map (AV.frozs d rows)=l
 | [],_,h=>rfl
 | x::xs,vs,h=>by
  simp only [RpR] at h
  obtain ⟨v,us,_,h2,h3⟩:=h
  simp only [List.map_cons,Rps.noName hd x h2,h3.noName hd]
theorem Rep.noName {fr:Fr} {ρ:Pl} {s:St} {a:Act} {w:World} (h:Rep fr ρ s a w) {d:Nat} (hd:ρ d=none) (rows:List (List AV)):s.hp.map (Ob.froz d rows)=s.hp∧AV.frozs d rows s.env=s.env:=by
 refine ⟨?_,h.env.noName hd⟩
 refine List.ext_getElem? fun i=>?_
 rw [List.getElem?_map]
 cases hi:s.hp[i]? with
 | none=>rfl
 | some o =>
  have ho:=h.heap i
  rw [show s.hp.getD i .dead=o by simp [List.getD_eq_getElem?_getD,hi]] at ho
  simp only [Option.map_some]
  congr 1
  cases o with
  | dead=>rfl
  | map clock births rs=>rfl
  | iter m since seen stepped =>
   cases hp:ρ i with
   | none=>rw [hp] at ho;exact ho.elim
   | some q =>
    rw [hp] at ho
    cases q with
    | nil=>exact ho.elim
    | blk b s' cap len=>exact ho.elim
    | mapb b =>
     obtain ⟨x,_,h2⟩:=ho
     simp only [Ob.froz,Rp.noName hd m h2]
  | arr T k p rs =>
   cases p with
   | true=>rfl
   | false =>
    simp only [Ob.froz,Bool.false_eq_true,if_false]
    cases hp:ρ i with
    | none=>rw [hp] at ho;exact ho.elim
    | some q =>
     rw [hp] at ho
     cases q with
     | nil=>have:rs=[]:=ho;subst this;rfl
     | mapb b=>exact ho.elim
     | blk b s' cap len =>
      obtain ⟨_,_,vss,rest,_,h2,_⟩:=ho
      rw [RpR.noName hd (show RpR w (Av fr.F ρ) ρ rs vss from h2)]
def litD (P:Program) (ti:TI) (d:Option Nat) (len:Nat) (parts:List (Nat × AV)) (hp:List Ob) (K:AV→Prop):Prop :=
 match ti.d,d with
 | .slice e,some d=>dead ⟨[],hp⟩ d∧(tyOf P e).d ≠ .no∧(tyOf P e).hz=true∧(tyOf P e).zero.length=(tyOf P e).size∧parts.map (·.1)=List.range len∧len*(tyOf P e).size≤16777216∧len≤16777216 ∧
   (∀ p∈parts,storable p.2=true∧(cellsOf p.2).length=(tyOf P e).size∧AV.pures (cellsOf p.2)=true) ∧
   K (.sl (parts.map fun p=>cellsOf p.2))
 | _,_=>False
theorem litD_sound {P:Program} {pins:List Nat} {fr:Fr} {ρ:Pl} {s:St} {a:Act} {w:World} {o:Oper} {Q:Exit→Act→World→Prop} (hp:fr.pins=pins) (h:Rep fr ρ s a w) {t:TypeId} {len:Nat} {ps:Array (Nat × Operand)} (ho:o.op = .buildSlice t len ps) {K:AV→Prop} (hk:litD P (tyOf P t) o.dst len (ps.toList.map fun p=>(p.1,ev s.env p.2)) s.hp K):∃ z,K z∧o.wp P a w (Ends fr (·=s.ret o.dst z)) Q:=by
 unfold litD at hk
 split at hk
 ·rename_i d' dd e d hd' hdd
  obtain ⟨h1,h2,h3,h4,h5,h6,h7,h8,hk⟩:=hk
  rw [hdd]
  refine ⟨_,hk,?_⟩
  generalize hrows:((ps.toList.map fun p=>(p.1,ev s.env p.2)).map fun p=>cellsOf p.2)=rows at *
  have hdead:ρ d=none:=by
   have:=h.heap d
   rw [show s.hp.getD d .dead = .dead by simp only [List.getD_eq_getElem?_getD];rw [show s.hp[d]?=some .dead from h1];rfl] at this
   exact this
  have hlen:rows.length=len:=by
   have:=congrArg List.length h5
   rw [← hrows]
   simpa using this
  have hpu:rows.all AV.pures=true:=by
   rw [← hrows,List.all_eq_true]
   intro r hr
   obtain ⟨p,hp,rfl⟩:=List.mem_map.1 hr
   exact (h8 p hp).2.2
  obtain ⟨z,s',⟨hz,hs'⟩,v,w',ρ',hrun,hrep,hrp⟩:=ok_lit (P:=P) h ho (K:=fun z s'=>z = .sref d 0 len∧s'=s.seth d (.arr e (tyOf P e).size true rows)) (by
   unfold litW
   rw [hd',hdd]
   refine ⟨h1,h2,h3,h4,h5,h6,h7,fun p hp=>⟨(h8 p hp).1,(h8 p hp).2.1⟩,rfl,?_⟩
   rw [hrows,hpu])
  subst hz;subst hs'
  have hput:=hrep.put (some d) hrp
  have hil:d<s.hp.length:=(List.getElem?_eq_some_iff.1 h1).1
  have hfz:=hput.freeze (i:=d) (T:=e) (k0:=(tyOf P e).size) (pf:=true) (rows:=rows) (by simp [St.seth,hil]) (by
   intro hin
   have h9:=(h.pin d hin)
   exact h9.2 hdead) (.inl rfl)
  obtain ⟨hn1,hn2⟩:=h.noName hdead rows
  refine (show o.wp P a w (Ends fr (·=s.ret (some d) (.sl rows))) Q from ?_)
  unfold Oper.wp
  rw [hrun]
  simp only [Oper.upon,hdd]
  refine ⟨_,_,?_,hfz⟩
  simp only [St.freeze,St.seth,St.ret]
  have e1:AV.frozs d rows (s.env.set d (.sref d 0 len))=s.env.set d (.sl rows):=by
   have e2:∀ (l:List AV) (k:Nat) (x:AV),AV.frozs d rows (l.set k x)=(AV.frozs d rows l).set k (x.froz d rows):=by
    intro l
    induction l with
    | nil=>intro k x;rfl
    | cons y l ih =>
     intro k x
     cases k with
     | zero=>rfl
     | succ k=>simp only [List.set_cons_succ,AV.frozs,ih]
   rw [e2,hn2]
   simp only [AV.froz,if_true,List.drop_zero]
   rw [← hlen,List.take_length]
  rw [e1]
  congr 1
  rw [List.set_set]
  have e3:s.hp.set d .dead=s.hp:=by
   refine List.ext_getElem? fun j=>?_
   rw [List.getElem?_set]
   split
   ·rename_i hj;subst hj;exact (show s.hp[d]?=some .dead from h1).symm
   ·rfl
  rw [e3,hn1]
 ·exact hk.elim
def Det {α:Type} (F:(α→Prop)→Prop):Prop:=∀ K,F K→∃ z,K z∧∀ K',K' z→F K'
theorem pickW_det (c x y:AV):Det (pickW c x y):=by
 intro K h
 cases c with
 | bool t =>
  by_cases hb:∃ p q,x = .bool p∧y = .bool q
  ·obtain ⟨p,q,rfl,rfl⟩:=hb
   exact ⟨_,h,fun K' h'=>h'⟩
  ·have he:∀ K,pickW (.bool t) x y K=((t=true→K x)∧(t=false→K y)):=by
    intro K
    unfold pickW
    dsimp only
    split
    ·exact absurd ⟨_,_,rfl,rfl⟩ hb
    ·rfl
   rw [he] at h
   cases t
   ·exact ⟨_,h.2 rfl,fun K' h'=>by rw [he];exact ⟨(fun h=>by cases h),fun _=>h'⟩⟩
   ·exact ⟨_,h.1 rfl,fun K' h'=>by rw [he];exact ⟨fun _=>h',(fun h=>by cases h)⟩⟩
 | _=>exact h.elim
theorem loadW_det (ti:TI) (x:AV) (hp:List Ob):Det (loadW ti x hp):=by
 intro K h
 cases x with
 | ia row off=>exact ⟨_,h.2,fun K' h'=>⟨h.1,h'⟩⟩
 | ptr i j off =>
  unfold loadW at h ⊢
  dsimp only at h ⊢
  generalize hp.getD i .dead=ob at h ⊢
  cases ob with
  | dead=>exact h.elim
  | map _ _ _=>exact h.elim
  | iter _ _ _ _=>exact h.elim
  | arr T k p rows=>exact ⟨_,h.2.2,fun K' h'=>⟨h.1,h.2.1,h'⟩⟩
 | _=>exact h.elim
theorem intW_det (op:BinOp) (k:IntKind) (x y:Int):Det (intW op k x y):=by
 intro K h
 cases op with
 | quo=>exact ⟨_,h.2,fun K' h'=>⟨h.1,h'⟩⟩
 | rem=>exact ⟨_,h.2,fun K' h'=>⟨h.1,h'⟩⟩
 | _=>first | exact ⟨_,h,fun K' h'=>h'⟩ | exact h.elim
theorem binW_det (P:Program) (ti:TI) (op:BinOp) (x y:AV):Det (binW P ti op x y):=by
 intro K h
 cases x with
 | int k m =>
  cases y with
  | int k' n =>
   cases op with
   | shl=>exact ⟨_,h.2,fun K' h'=>⟨h.1,h'⟩⟩
   | shr=>exact ⟨_,h.2,fun K' h'=>⟨h.1,h'⟩⟩
   | _ =>
    obtain ⟨h1,h2⟩:=h
    obtain ⟨z,h3,h4⟩:=intW_det _ _ _ _ K h2
    exact ⟨z,h3,fun K' h'=>⟨h1,h4 K' h'⟩⟩
  | _=>exact h.elim
 | bool p =>
  cases y with
  | bool q =>
   cases op with
   | eql=>exact ⟨_,h.2,fun K' h'=>⟨h.1,h'⟩⟩
   | neq=>exact ⟨_,h.2,fun K' h'=>⟨h.1,h'⟩⟩
   | _=>exact h.2.elim
  | _=>exact h.elim
 | str p =>
  cases y with
  | str q =>
   cases op with
   | eql=>exact ⟨_,h,fun K' h'=>h'⟩
   | neq=>exact ⟨_,h,fun K' h'=>h'⟩
   | add=>exact ⟨_,h.2,fun K' h'=>⟨h.1,h'⟩⟩
   | _=>exact h.elim
  | _=>exact h.elim
 | ptr i j off =>
  cases y with
  | nilp =>
   cases op with
   | eql=>exact ⟨_,h.2,fun K' h'=>⟨h.1,h'⟩⟩
   | neq=>exact ⟨_,h.2,fun K' h'=>⟨h.1,h'⟩⟩
   | _=>exact h.2.elim
  | _=>exact h.elim
 | nilp =>
  cases y with
  | nilp =>
   cases op with
   | eql=>exact ⟨_,h.2,fun K' h'=>⟨h.1,h'⟩⟩
   | neq=>exact ⟨_,h.2,fun K' h'=>⟨h.1,h'⟩⟩
   | _=>exact h.2.elim
  | _=>exact h.elim
 | _=>cases y <;> exact h.elim
theorem unW_det (op:UnOp) (x:AV):Det (unW op x):=by
 intro K h
 cases op <;> cases x <;> first | exact ⟨_,h,fun K' h'=>h'⟩ | exact h.elim
theorem convW_det (ts td:TI) (x:AV):Det (convW ts td x):=by
 intro K h
 unfold convW at h ⊢
 generalize ts.d=d1 at h ⊢
 generalize td.d=d2 at h ⊢
 split at h
 ·exact ⟨_,h,fun K' h'=>h'⟩
 ·exact ⟨_,h,fun K' h'=>h'⟩
 ·exact h.elim
theorem fieldAddrW_det (P:Program) (ti:TI) (x:AV) (f:Nat):Det (fieldAddrW P ti x f):=by
 intro K h
 unfold fieldAddrW at h ⊢
 generalize ti.d=d at h ⊢
 cases d with
 | struct fs =>
  cases x with
  | ia row off=>exact ⟨_,h.2.2.2,fun K' h'=>⟨h.1,h.2.1,h.2.2.1,h'⟩⟩
  | ptr i j off=>exact ⟨_,h.2.2.2,fun K' h'=>⟨h.1,h.2.1,h.2.2.1,h'⟩⟩
  | _=>exact h.2.2.2.elim
 | _=>exact h.elim
theorem fieldW_det (P:Program) (ti:TI) (x:AV) (f:Nat):Det (fieldW P ti x f):=by
 intro K h
 unfold fieldW at h ⊢
 generalize ti.d=d at h ⊢
 split at h
 ·exact ⟨_,h.2.2.2.2,fun K' h'=>⟨h.1,h.2.1,h.2.2.1,h.2.2.2.1,h'⟩⟩
 ·exact h.elim
theorem indexAddrW_det (P:Program) (ti:TI) (x y:AV) (hp:List Ob):Det (indexAddrW P ti x y hp):=by
 intro K h
 unfold indexAddrW at h ⊢
 generalize ti.d=d at h ⊢
 split at h
 ·cases x with
  | sl rows=>exact ⟨_,h.2.2.2.2,fun K' h'=>⟨h.1,h.2.1,h.2.2.1,h.2.2.2.1,h'⟩⟩
  | sref i off m=>exact ⟨_,h.2.2.2.2,fun K' h'=>⟨h.1,h.2.1,h.2.2.1,h.2.2.2.1,h'⟩⟩
  | _=>exact h.2.elim
 ·cases x with
  | ptr i j off=>exact ⟨_,h.2.2.2,fun K' h'=>⟨h.1,h.2.1,h.2.2.1,h'⟩⟩
  | ia row off=>exact ⟨_,h.2.2.2,fun K' h'=>⟨h.1,h.2.1,h.2.2.1,h'⟩⟩
  | _=>exact h.2.2.2.elim
 ·exact h.elim
theorem indexW_det (P:Program) (ti:TI) (x y:AV):Det (indexW P ti x y):=by
 intro K h
 unfold indexW at h ⊢
 generalize ti.d=d at h ⊢
 split at h
 ·exact ⟨_,h.2.2,fun K' h'=>⟨h.1,h.2.1,h'⟩⟩
 ·exact ⟨_,h.2.2.2.2.2,fun K' h'=>⟨h.1,h.2.1,h.2.2.1,h.2.2.2.1,h.2.2.2.2.1,h'⟩⟩
 ·exact h.elim
theorem extractW_det (x:AV) (i:Nat):Det (extractW x i):=by
 intro K h
 cases x with
 | tup l=>exact ⟨_,h.2,fun K' h'=>⟨h.1,h'⟩⟩
 | _=>exact h.elim
theorem nilCheckW_det (x:AV):Det (nilCheckW x):=by
 intro K h
 cases x <;> first | exact ⟨_,h,fun K' h'=>h'⟩ | exact h.elim
theorem lenW_det (ti:TI) (x:AV):Det (lenW ti x):=by
 intro K h
 unfold lenW at h ⊢
 generalize ti.d=d at h ⊢
 split at h <;> first | exact ⟨_,h,fun K' h'=>h'⟩ | exact h.elim
theorem buildW_det (P:Program) (ti:TI) (parts:List (Nat × AV)):Det (buildW P ti parts):=by
 intro K h
 unfold buildW at h ⊢
 generalize ti.d=d at h ⊢
 cases d with
 | struct fs=>exact ⟨_,h.2.2.2,fun K' h'=>⟨h.1,h.2.1,h.2.2.1,h'⟩⟩
 | arr n e=>exact ⟨_,h.2.2.2,fun K' h'=>⟨h.1,h.2.1,h.2.2.1,h'⟩⟩
 | _=>exact h.elim
theorem sliceW_det (P:Program) (ti:TI) (x:AV) (lo hi mx:Option AV) (hp:List Ob):Det (sliceW P ti x lo hi mx hp):=by
 intro K h
 unfold sliceW at h ⊢
 generalize ti.d=d at h ⊢
 split at h
 ·obtain ⟨h1,h⟩:=h
  cases h2:bnd lo 0 <;> cases h3:bnd hi _ <;> rw [h2,h3] at h
  ·exact h.elim
  ·exact h.elim
  ·exact h.elim
  ·exact ⟨_,h.2.2.2,fun K' h'=>⟨h1,h.1,h.2.1,h.2.2.1,h'⟩⟩
 ·obtain ⟨h1,h⟩:=h
  cases h2:bnd lo 0 <;> cases h3:bnd hi _ <;> rw [h2,h3] at h
  ·exact h.elim
  ·exact h.elim
  ·exact h.elim
  ·exact ⟨_,h.2.2.2.2.2.2,fun K' h'=>⟨h1,h.1,h.2.1,h.2.2.1,h.2.2.2.1,h.2.2.2.2.1,h.2.2.2.2.2.1,h'⟩⟩
 ·obtain ⟨h1,h0,h01,h⟩:=h
  cases h2:bnd lo 0 <;> cases h3:bnd hi _ <;> rw [h2,h3] at h
  ·exact h.elim
  ·exact h.elim
  ·exact h.elim
  ·exact ⟨_,h.2.2.2,fun K' h'=>⟨h1,h0,h01,h.1,h.2.1,h.2.2.1,h'⟩⟩
 ·exact ⟨_,h.2.2.2.2,fun K' h'=>⟨h.1,h.2.1,h.2.2.1,h.2.2.2.1,h'⟩⟩
 ·exact h.elim
theorem lookW_det (P:Program) (ti:TI) (m x:AV) (c:Bool) (hp:List Ob):Det (lookW P ti m x c hp):=by
 intro K h
 unfold lookW at h ⊢
 split at h
 ·rename_i kt et rows hd hrm
  obtain ⟨h1,h2,h3⟩:=h
  split at h3
  ·rename_i j hf
   exact ⟨_,h3,fun K' h'=>⟨h1,h2,h'⟩⟩
  ·rename_i hf
   exact ⟨_,h3,fun K' h'=>⟨h1,h2,h'⟩⟩
  ·exact h3.elim
 ·exact h.elim
mutual
def AV.celly:AV→Bool
 | .int _ _ | .bool _ | .str _ | .und | .nilp | .nilif | .nilfn | .nilmp | .nils=>true
 | .sl rows=>AV.cellyR rows
 | .agg cs=>AV.cellys cs
 | .tup cs=>AV.cellys cs
 | _=>false
def AV.cellys:List AV→Bool
 | []=>true
 | x::xs=>AV.celly x&&AV.cellys xs
def AV.cellyR:List (List AV)→Bool
 | []=>true
 | r::rs=>!r.isEmpty&&AV.cellys r&&AV.cellyR rs
end
structure NoMap (w:World) (A A':Nat→Prop):Prop where
 av:∀ k,A' k→A k∨∀ o,w.cell? ⟨k,o,none⟩=none
theorem CellsAt.noMap {w:World} {b o:Nat} {vs:List Value} (h:CellsAt w b o vs) (h0:vs≠[]) (hm:∀ o,w.cell? ⟨b,o,none⟩=none):False:=by
 match vs,h0 with
 | v::vs,_ =>
  have:=h 0 v rfl
  rw [hm] at this
  cases this
mutual
theorem Rp.noMap {w:World} {A A':Nat→Prop} (hl:NoMap w A A'):∀ (x:AV) {v:Value},x.celly=true→Rp w A noPl x v→Rp w A' noPl x v
 | .any,_,hc,_=>by simp [AV.celly] at hc
 | .und,_,_,h=>by simpa only [Rp] using h
 | .int _ _,_,_,h=>by simpa only [Rp] using h
 | .bool _,_,_,h=>by simpa only [Rp] using h
 | .str _,_,_,h=>by simpa only [Rp] using h
 | .nils,_,_,h=>by simpa only [Rp] using h
 | .nilp,_,_,h=>by simpa only [Rp] using h
 | .nilfn,_,_,h=>by simpa only [Rp] using h
 | .nilif,_,_,h=>by simpa only [Rp] using h
 | .nilmp,_,_,h=>by simpa only [Rp] using h
 | .gl _,_,hc,_=>by simp [AV.celly] at hc
 | .sl rows,v,hc,h=>by
  simp only [AV.celly] at hc
  simp only [Rp] at h ⊢
  obtain ⟨ad,cap,h1,h2,h3,h4⟩:=h
  refine ⟨ad,cap,h1,h2,h3,?_⟩
  rcases h4 with h4 | ⟨b,o,vss,h5,h6,h7,h8,h9⟩
  ·exact .inl h4
  ·by_cases hr:rows=[]
   ·exact .inl hr
   ·refine .inr ⟨b,o,vss,h5,fun hA=>?_,h7,h8,RpR.noMap hl rows hc h9⟩
    rcases hl.av b hA with h10 | h10
    ·exact h6 h10
    ·refine h8.noMap (fun he=>?_) h10
     match rows,hr,hc,vss,h9 with
     | r::rs,_,hc,vss,h9 =>
      simp only [RpR] at h9
      obtain ⟨vs,uss,rfl,h11,_⟩:=h9
      simp only [AV.cellyR,Bool.and_eq_true] at hc
      simp only [List.flatten_cons,List.append_eq_nil_iff] at he
      have:=h11.length
      rw [he.1] at this
      simp only [List.length_nil] at this
      have:r=[]:=List.eq_nil_of_length_eq_zero this.symm
      subst this
      simp at hc
 | .ia _ _,_,hc,_=>by simp [AV.celly] at hc
 | .sref _ _ _,_,hc,_=>by simp [AV.celly] at hc
 | .ptr _ _ _,_,hc,_=>by simp [AV.celly] at hc
 | .mp _,_,hc,_=>by simp [AV.celly] at hc
 | .it _,_,hc,_=>by simp [AV.celly] at hc
 | .md _ _ _,_,hc,_=>by simp [AV.celly] at hc
 | .fn _ _ _,_,hc,_=>by simp [AV.celly] at hc
 | .ifc _ _,_,hc,_=>by simp [AV.celly] at hc
 | .agg cs,v,hc,h=>by
  simp only [AV.celly] at hc
  simp only [Rp] at h ⊢
  obtain ⟨vs,h1,h2⟩:=h
  exact ⟨vs,h1,Rps.noMap hl cs hc h2⟩
 | .tup cs,v,hc,h=>by
  simp only [AV.celly] at hc
  simp only [Rp] at h ⊢
  obtain ⟨vs,h1,h2⟩:=h
  exact ⟨vs,h1,Rps.noMap hl cs hc h2⟩
theorem Rps.noMap {w:World} {A A':Nat→Prop} (hl:NoMap w A A'):∀ (l:List AV) {vs:List Value},AV.cellys l=true→Rps w A noPl l vs→Rps w A' noPl l vs
 | [],_,_,h=>by simpa only [Rps] using h
 | x::xs,vs,hc,h=>by
  simp only [AV.cellys,Bool.and_eq_true] at hc
  simp only [Rps] at h ⊢
  obtain ⟨v,us,h1,h2,h3⟩:=h
  exact ⟨v,us,h1,Rp.noMap hl x hc.1 h2,Rps.noMap hl xs hc.2 h3⟩
theorem RpR.noMap {w:World} {A A':Nat→Prop} (hl:NoMap w A A'):∀ (l:List (List AV)) {vs:List (List Value)},AV.cellyR l=true→RpR w A noPl l vs→RpR w A' noPl l vs
 | [],_,_,h=>by simpa only [RpR] using h
 | x::xs,vs,hc,h=>by
  simp only [AV.cellyR,Bool.and_eq_true] at hc
  simp only [RpR] at h ⊢
  obtain ⟨v,us,h1,h2,h3⟩:=h
  exact ⟨v,us,h1,Rps.noMap hl x hc.1.2 h2,RpR.noMap hl xs hc.2 h3⟩
end
def Av0 (F:Nat→Prop) (ρ:Pl):Nat→Prop:=fun k=>F k∨∃ i b s cap len,ρ i=some (.blk b s cap len)∧b=k
theorem call_mapV {P:Program} {pins:List Nat} {g:FuncId} {i clock:Nat} {births:List Nat} {rows:List (List AV)} {avs:List AV} {s:St} {K:AV→St→Prop} {R:AV→Prop} (hi:s.hp[i]?=some (.map clock births rows)) (ha:AV.pures avs=true)
  (hpure:Pure P g (.md clock births rows::AV.datas avs) R) (hk:∀ r,R r→r.celly=true∧K r s):CallOk P pins g (.mp i::avs) s K:=by
 intro fr ρ a w vals hp hr hv
 have hsub:∀ k,Av0 fr.F ρ k→Av fr.F ρ k:=by
  rintro k (h1 | ⟨j,b,s,cap,len,h1,rfl⟩)
  ·exact .inl h1
  ·exact .inr ⟨j,_,h1,rfl⟩
 have hlat:Later w (Av fr.F ρ) noPl w (Av0 fr.F ρ) noPl:=⟨Nat.le_refl _,fun k _ hk=>hsub k hk,fun _ _ _=>rfl,fun _ _ h=>h⟩
 have hlt:∀ k,Av0 fr.F ρ k→k<w.heap.size:=by
  rintro k (hk | ⟨i,b,s,cap,len,h1,rfl⟩)
  ·exact Nat.lt_of_lt_of_le (hr.fF k hk) hr.base
  ·exact hr.lt h1 rfl
 simp only [Rps] at hv
 obtain ⟨v0,us,rfl,h0,hv⟩:=hv
 simp only [Rp] at h0
 obtain ⟨b,hb,rfl⟩:=h0
 have hm:=hr.heap i
 rw [show s.hp.getD i .dead = .map clock births rows by simp [List.getD_eq_getElem?_getD,hi],hb] at hm
 obtain ⟨ents,g1,g2,g3,g4⟩:=hm
 have hargs:Rps w (Av0 fr.F ρ) noPl (.md clock births rows::AV.datas avs) (.map (some b)::us):=by
  simp only [Rps,Rp]
  refine ⟨_,_,rfl,⟨b,ents,rfl,?_,hr.lt hb rfl,g1,g2,g3,RpR.later (ρ:=noPl) _ hlat g4⟩,Rps.later (ρ:=noPl) _ hlat (Rps.data avs (Rps.pure noPl avs ha hv))⟩
  rintro (h1 | ⟨j,b',s',cap,len,h1,rfl⟩)
  ·rcases hr.mine i _ b hb rfl with h3 | h3
   ·have:=hr.fF b h1;omega
   ·exact fr.dis b h1 h3
  ·have:=hr.inj j i _ _ b' h1 hb rfl rfl
   subst this
   rw [hb] at h1
   cases h1
 refine (hpure w _ (Av0 fr.F ρ) hlt hargs).mono fun e w' he=>?_
 obtain ⟨v,r,h1,h2,h3,h4⟩:=he
 obtain ⟨hf,hK⟩:=hk r h2
 have hbw:=(hr.below h3).1
 refine ⟨v,r,s,ρ,h1,hK,hbw,?_⟩
 refine Rp.later (ρ:=noPl) r (noPl_later ρ) (Rp.noMap (A:=Av0 fr.F ρ) ⟨fun k hk=>?_⟩ r hf h4)
 rcases hk with hk | ⟨j,p,hj,hp2⟩
 ·exact .inl (.inl hk)
 ·cases p with
  | nil=>simp [Place.block] at hp2
  | blk b' s' cap len =>
   simp [Place.block] at hp2
   exact .inl (.inr ⟨j,b',s',cap,len,hj,hp2⟩)
  | mapb b' =>
   simp [Place.block] at hp2
   subst hp2
   refine .inr fun o=>?_
   have hj':=hbw.heap j
   rw [hj] at hj'
   generalize s.hp.getD j .dead=ob at hj'
   cases ob with
   | dead=>cases hj'
   | arr T k p rows=>exact hj'.elim
   | map c bs rs =>
    obtain ⟨ents',e1,_⟩:=hj'
    unfold World.cell?
    simp [e1]
   | iter m a bs c =>
    obtain ⟨x,e1,_⟩:=hj'
    unfold World.cell?
    simp [e1]
inductive CallFx (P:Program) (nw:Nat→Bool) (hp:List Ob) (g:FuncId) (avs:List AV):AV→Prop
 | pure {r:AV} (h1:AV.pures avs=true) (h2:Pure P g (AV.datas avs) (·=r)):CallFx P nw hp g avs r
 | mapv {r:AV} {i clock:Nat} {births:List Nat} {rows:List (List AV)} {avs':List AV} (h0:nw i=true) (h1:avs = .mp i::avs') (h2:hp[i]?=some (.map clock births rows)) (h3:AV.pures avs'=true) (h4:r.celly=true)
   (h5:Pure P g (.md clock births rows::AV.datas avs') (·=r)):CallFx P nw hp g avs r
 | look {r:AV} (js:List Nat) (h0:js.all nw=true) (h1:∀ (s:St) (pins:List Nat) (K:AV→St→Prop),(∀ j∈js,s.hp[j]?=hp[j]?)→K r s→CallOk P pins g avs s K):CallFx P nw hp g avs r
theorem CallFx.ok {P:Program} {nw:Nat→Bool} {pins:List Nat} {hp:List Ob} {g:FuncId} {avs:List AV} {r:AV} (h:CallFx P nw hp g avs r) {s:St} (hs:∀ i,nw i=true→s.hp[i]?=hp[i]?) {K:AV→St→Prop} (hk:K r s):CallOk P pins g avs s K:=by
 cases h with
 | pure h1 h2=>exact call_pure h1 h2 fun r' hr'=>by subst hr';exact hk
 | mapv h0 h1 h2 h3 h4 h5 =>
  subst h1
  exact call_mapV (by rw [hs _ h0];exact h2) h3 h5 fun r' hr'=>by subst hr';exact ⟨h4,hk⟩
 | look js h0 h1=>exact h1 s pins K (fun j hj=>hs j (List.all_eq_true.1 h0 j hj)) hk
structure Eff where
 dst:Option Nat
 x:AV
 rd:Option Nat
 wr:Option (Nat × Ob)
def Eff.app (f:Eff) (s:St):St:=⟨(match f.dst with | some d=>s.env.set d f.x | none=>s.env),(match f.wr with | some (i,o)=>s.hp.set i o | none=>s.hp)⟩
def Eff.wi (f:Eff):Option Nat:=f.wr.map (·.1)
def objOf:AV→Option Nat
 | .sref i _ _=>some i
 | .ptr i _ _=>some i
 | .mp i=>some i
 | _=>none
def storeF (ti:TI) (x y:AV) (hp:List Ob) (C:Nat × Ob→Prop):Prop :=
 match x with
 | .ptr i j off=>match hp.getD i .dead with
  | .arr T k pf rows=>storable y=true∧(cellsOf y).length=ti.size∧(pf=true→AV.pures (cellsOf y)=true)∧j<rows.length∧off+ti.size≤(rows.getD j []).length ∧
    C (i,.arr T k pf (rows.set j (overlay (rows.getD j []) off (cellsOf y))))
  | _=>False
 | _=>False
def Op.mr:Op→Bool
 | .load _ _ | .slice _ _ _ _ _ | .indexAddr _ _ _ | .buildSlice _ _ _ | .lookup _ _ _ _=>true
 | _=>false
def Op.mw:Op→Bool
 | .store _ _ _ | .alloc _ | .box _ _=>true
 | _=>false
def Op.isCall:Op→Bool
 | .call _=>true
 | _=>false
def Op.st:Op→Bool
 | .store _ _ _=>true
 | _=>false
section
variable (P:Program) (nw:Nat→Bool) (pins:List Nat)
def opF (o:Oper) (s:St) (C:Eff→Prop):Prop :=
 match o.op with
 | .move x=>C ⟨o.dst,ev s.env x,none,none⟩
 | .assign x=>C ⟨o.dst,ev s.env x,none,none⟩
 | .pick c x y=>pickW (ev s.env c) (ev s.env x) (ev s.env y) fun z=>C ⟨o.dst,z,none,none⟩
 | .alloc t=>match o.dst with
  | some d=>dead s d∧(tyOf P t).d ≠ .no∧(tyOf P t).hz=true∧C ⟨some d,.ptr d 0 0,none,some (d,.arr t (tyOf P t).zero.length false [(tyOf P t).zero])⟩
  | none=>False
 | .box t x=>match o.dst with
  | some d=>dead s d∧storable (ev s.env x)=true∧C ⟨some d,.ptr d 0 0,none,some (d,.arr t (cellsOf (ev s.env x)).length false [cellsOf (ev s.env x)])⟩
  | none=>False
 | .build t ps=>buildW P (tyOf P t) (ps.toList.map fun p=>(p.1,ev s.env p.2)) fun z=>C ⟨o.dst,z,none,none⟩
 | .buildSlice t len ps=>litD P (tyOf P t) o.dst len (ps.toList.map fun p=>(p.1,ev s.env p.2)) s.hp fun z=>C ⟨o.dst,z,o.dst,none⟩
 | .load t x=>(tyOf P t).d ≠ .no∧((tyOf P t).isAgg=true∨(tyOf P t).size=1)∧loadW (tyOf P t) (ev s.env x) s.hp fun z=>C ⟨o.dst,z,objOf (ev s.env x),none⟩
 | .store t x y=>o.dst=none∧(tyOf P t).d ≠ .no∧storeF (tyOf P t) (ev s.env x) (ev s.env y) s.hp fun wr=>C ⟨none,.any,none,some wr⟩
 | .nilCheck x=>nilCheckW (ev s.env x) fun z=>C ⟨o.dst,z,none,none⟩
 | .binOp op t x y _=>binW P (tyOf P t) op (ev s.env x) (ev s.env y) fun z=>C ⟨o.dst,z,none,none⟩
 | .unOp op _ x=>unW op (ev s.env x) fun z=>C ⟨o.dst,z,none,none⟩
 | .convert t u x=>convW (tyOf P t) (tyOf P u) (ev s.env x) fun z=>C ⟨o.dst,z,none,none⟩
 | .slice t x lo hi mx=>sliceW P (tyOf P t) (ev s.env x) (evo s.env lo) (evo s.env hi) (evo s.env mx) s.hp fun z=>C ⟨o.dst,z,objOf (ev s.env x),none⟩
 | .fieldAddr t x f=>fieldAddrW P (tyOf P t) (ev s.env x) f fun z=>C ⟨o.dst,z,none,none⟩
 | .field t x f=>fieldW P (tyOf P t) (ev s.env x) f fun z=>C ⟨o.dst,z,none,none⟩
 | .indexAddr t x y=>indexAddrW P (tyOf P t) (ev s.env x) (ev s.env y) s.hp fun z=>C ⟨o.dst,z,objOf (ev s.env x),none⟩
 | .index t x y=>indexW P (tyOf P t) (ev s.env x) (ev s.env y) fun z=>C ⟨o.dst,z,none,none⟩
 | .extract x i=>extractW (ev s.env x) i fun z=>C ⟨o.dst,z,none,none⟩
 | .makeFunc f first cap=>C ⟨o.dst,.fn f (first.toList.map (ev s.env)) (cap.toList.map (ev s.env)),none,none⟩
 | .lookup t m x c=>lookW P (tyOf P t) (ev s.env m) (ev s.env x) c s.hp fun z=>C ⟨o.dst,z,objOf (ev s.env m),none⟩
 | .call ⟨.builtin .len,⟨[x]⟩,⟨[t]⟩⟩=>lenW (tyOf P t) (ev s.env x) fun z=>C ⟨o.dst,z,none,none⟩
 | .call ⟨.value f,⟨xs⟩,_⟩=>match ev s.env f with
  | .fn (.func g) first cap=>enters P g=true∧∃ r,CallFx P nw s.hp g (first++xs.map (ev s.env)++cap) r∧C ⟨o.dst,r,none,none⟩
  | _=>False
 | _=>False
def Fits (o:Oper) (f:Eff) (s:St):Prop:=∀ (e':List AV) (hp':List Ob),(∀ x∈o.op.operands.toList,ev e' x=ev s.env x)→(∀ i,f.rd=some i∨f.wi=some i→hp'[i]?=s.hp[i]?)→(Op.isCall o.op=true→∀ i,nw i=true→hp'[i]?=s.hp[i]?) →
 ∀ (fr:Fr) (ρ:Pl) (a:Act) (w:World) (Q:Exit→Act→World→Prop),fr.pins=pins→Rep fr ρ ⟨e',hp'⟩ a w→o.wp P a w (Ends fr (·=f.app ⟨e',hp'⟩)) Q
variable {P nw pins} {o:Oper} {s:St} {C:Eff→Prop}
theorem fits_val (x:AV) (rd:Option Nat) (hrd:rd≠none→Op.mr o.op=true) (hC:C ⟨o.dst,x,rd,none⟩) (h:∀ e' hp',(∀ x∈o.op.operands.toList,ev e' x=ev s.env x)→(∀ i,rd=some i→hp'[i]?=s.hp[i]?)→∀ K:St→Prop,K (St.ret ⟨e',hp'⟩ o.dst x)→opW P pins o ⟨e',hp'⟩ K) :
  ∃ f,C f∧f.dst=o.dst∧(f.rd≠none→Op.mr o.op=true)∧(f.wi≠none→Op.mw o.op=true∧(Op.st o.op=true∨f.wi=o.dst))∧Fits P nw pins o f s:=by
 refine ⟨_,hC,rfl,hrd,(fun h=>absurd rfl h),fun e' hp' he hh _ fr ρ a w Q hp hr=>opW_sound hp hr (h e' hp' he (fun i hi=>hh i (.inl hi)) _ ?_)⟩
 rfl
theorem getD_of {hp hp':List Ob} {i:Nat} (h:hp'[i]?=hp[i]?):hp'.getD i .dead=hp.getD i .dead:=by simp only [List.getD_eq_getElem?_getD,h]
theorem loadW_hp {ti:TI} {x:AV} {hp hp':List Ob} {K:AV→Prop} (h:∀ i,objOf x=some i→hp'[i]?=hp[i]?) (hk:loadW ti x hp K):loadW ti x hp' K:=by
 cases x with
 | ptr i j off =>
  unfold loadW at hk ⊢
  dsimp only at hk ⊢
  rw [getD_of (h i rfl)]
  exact hk
 | ia row off=>exact hk
 | _=>exact hk.elim
theorem indexAddrW_hp {ti:TI} {x y:AV} {hp hp':List Ob} {K:AV→Prop} (h:∀ i,objOf x=some i→hp'[i]?=hp[i]?) (hk:indexAddrW P ti x y hp K):indexAddrW P ti x y hp' K:=by
 unfold indexAddrW at hk ⊢
 generalize ti.d=d at hk ⊢
 split at hk
 ·cases x with
  | sref i off n =>
   dsimp only at hk ⊢
   rw [getD_of (h i rfl)]
   exact hk
  | _=>exact hk
 ·exact hk
 ·exact hk.elim
theorem sliceW_hp {ti:TI} {x:AV} {lo hi mx:Option AV} {hp hp':List Ob} {K:AV→Prop} (h:∀ i,objOf x=some i→hp'[i]?=hp[i]?) (hk:sliceW P ti x lo hi mx hp K):sliceW P ti x lo hi mx hp' K:=by
 unfold sliceW at hk ⊢
 generalize ti.d=d at hk ⊢
 split at hk
 ·exact hk
 ·exact hk
 ·rename_i e i off n
  rw [getD_of (h i rfl)]
  exact hk
 ·exact hk
 ·exact hk.elim
theorem lookW_hp {ti:TI} {m x:AV} {c:Bool} {hp hp':List Ob} {K:AV→Prop} (h:∀ i,objOf m=some i→hp'[i]?=hp[i]?) (hk:lookW P ti m x c hp K):lookW P ti m x c hp' K:=by
 have:rowsM m hp'=rowsM m hp:=by
  cases m with
  | mp i =>
   unfold rowsM
   dsimp only
   rw [getD_of (h i rfl)]
  | _=>rfl
 unfold lookW at hk ⊢
 rw [this]
 exact hk
theorem litD_det (P:Program) (ti:TI) (d:Option Nat) (len:Nat) (parts:List (Nat × AV)) (hp:List Ob):Det (litD P ti d len parts hp):=by
 intro K h
 unfold litD at h ⊢
 generalize ti.d=t at h ⊢
 split at h
 ·exact ⟨_,h.2.2.2.2.2.2.2.2,fun K' h'=>⟨h.1,h.2.1,h.2.2.1,h.2.2.2.1,h.2.2.2.2.1,h.2.2.2.2.2.1,h.2.2.2.2.2.2.1,h.2.2.2.2.2.2.2.1,h'⟩⟩
 ·exact h.elim
theorem litD_hp {P:Program} {ti:TI} {d:Option Nat} {len:Nat} {parts:List (Nat × AV)} {hp hp':List Ob} {K:AV→Prop} (h:∀ i,d=some i→hp'[i]?=hp[i]?) (hk:litD P ti d len parts hp K):litD P ti d len parts hp' K:=by
 unfold litD at hk ⊢
 generalize ti.d=t at hk ⊢
 split at hk
 ·exact ⟨(h _ rfl).trans hk.1,hk.2⟩
 ·exact hk.elim
theorem mem_pairs {ps:Array (Nat × Operand)} {e e':List AV} (h:∀ x∈(ps.map (·.2)).toList,ev e' x=ev e x):(ps.toList.map fun p=>(p.1,ev e' p.2))=ps.toList.map fun p=>(p.1,ev e p.2):=by
 refine List.map_congr_left fun p hp=>?_
 rw [h p.2 (by simp only [Array.toList_map,List.mem_map];exact ⟨p,hp,rfl⟩)]
theorem map_ev {l:List Operand} {e e':List AV} (h:∀ x∈l,ev e' x=ev e x):l.map (ev e')=l.map (ev e):=List.map_congr_left h
theorem evo_ev {x:Option Operand} {e e':List AV} (h:∀ y∈x.toList,ev e' y=ev e y):evo e' x=evo e x:=by
 cases x with
 | none=>rfl
 | some y=>simp only [evo,h y (by simp)]
theorem storeF_det (ti:TI) (x y:AV) (hp:List Ob):Det (storeF ti x y hp):=by
 intro K h
 cases x with
 | ptr i j off =>
  unfold storeF at h ⊢
  dsimp only at h ⊢
  generalize hp.getD i .dead=ob at h ⊢
  cases ob with
  | dead=>exact h.elim
  | map _ _ _=>exact h.elim
  | iter _ _ _ _=>exact h.elim
  | arr T k p rows=>exact ⟨_,h.2.2.2.2.2,fun K' h'=>⟨h.1,h.2.1,h.2.2.1,h.2.2.2.1,h.2.2.2.2.1,h'⟩⟩
 | _=>exact h.elim
theorem opF_fits (h:opF P nw o s C):∃ f,C f∧f.dst=o.dst∧(f.rd≠none→Op.mr o.op=true)∧(f.wi≠none→Op.mw o.op=true∧(Op.st o.op=true∨f.wi=o.dst))∧Fits P nw pins o f s:=by
 unfold opF at h
 split at h
 ·rename_i x ho
  refine fits_val _ _ (by simp [ho,Op.mr]) h fun e' hp' he hh K hk=>?_
  unfold opW;simp only [ho]
  rw [ho] at he
  rw [he x (by simp [Op.operands])];exact hk
 ·rename_i x ho
  refine fits_val _ _ (by simp [ho,Op.mr]) h fun e' hp' he hh K hk=>?_
  unfold opW;simp only [ho]
  rw [ho] at he
  rw [he x (by simp [Op.operands])];exact hk
 ·rename_i c x y ho
  obtain ⟨z,h1,h2⟩:=pickW_det _ _ _ _ h
  refine fits_val _ _ (by simp [ho,Op.mr]) h1 fun e' hp' he hh K hk=>?_
  unfold opW;simp only [ho]
  rw [ho] at he
  rw [he c (by simp [Op.operands]),he x (by simp [Op.operands]),he y (by simp [Op.operands])];exact h2 _ hk
 ·rename_i t ho
  split at h
  ·rename_i d hd
   obtain ⟨h1,h2,h3,h4⟩:=h
   refine ⟨_,h4,hd.symm,(fun h=>absurd rfl h),(fun _=>⟨by simp [ho,Op.mw],.inr hd.symm⟩),fun e' hp' he hh _ fr ρ a w Q hp hr=>opW_sound hp hr ?_⟩
   unfold opW;simp only [ho,hd]
   exact ⟨(hh d (.inr rfl)).trans h1,h2,h3,rfl⟩
  ·exact h.elim
 ·rename_i t x ho
  split at h
  ·rename_i d hd
   obtain ⟨h1,h2,h4⟩:=h
   refine ⟨_,h4,hd.symm,(fun h=>absurd rfl h),(fun _=>⟨by simp [ho,Op.mw],.inr hd.symm⟩),fun e' hp' he hh _ fr ρ a w Q hp hr=>opW_sound hp hr ?_⟩
   unfold opW;simp only [ho,hd]
   rw [ho] at he
   rw [he x (by simp [Op.operands])]
   exact ⟨(hh d (.inr rfl)).trans h1,h2,rfl⟩
  ·exact h.elim
 ·rename_i t ps ho
  obtain ⟨z,h1,h2⟩:=buildW_det _ _ _ _ h
  refine fits_val _ _ (by simp [ho,Op.mr]) h1 fun e' hp' he hh K hk=>?_
  unfold opW;simp only [ho]
  rw [ho] at he
  rw [mem_pairs (e:=s.env) (by simpa [Op.operands] using he)];exact h2 _ hk
 ·rename_i t len ps ho
  obtain ⟨z,h1,h2⟩:=litD_det _ _ _ _ _ _ _ h
  refine ⟨_,h1,rfl,(by simp [ho,Op.mr]),(fun h=>absurd rfl h),fun e' hp' he hh _ fr ρ a w Q hp hr=>?_⟩
  rw [ho] at he
  have h3:=litD_hp (hp':=hp') (fun i hi=>hh i (.inl hi)) (h2 (·=z) rfl)
  rw [← mem_pairs (e':=e') (by simpa [Op.operands] using he)] at h3
  obtain ⟨z',hz,h4⟩:=litD_sound (Q:=Q) hp hr ho h3
  subst hz
  exact h4
 ·rename_i t x ho
  obtain ⟨h1,h2,h3⟩:=h
  obtain ⟨z,h4,h5⟩:=loadW_det _ _ _ _ h3
  refine fits_val _ _ (by simp [ho,Op.mr]) h4 fun e' hp' he hh K hk=>?_
  unfold opW;simp only [ho]
  rw [ho] at he
  rw [he x (by simp [Op.operands])];exact ⟨h1,h2,loadW_hp hh (h5 _ hk)⟩
 ·rename_i t x y ho
  obtain ⟨h1,h2,h3⟩:=h
  obtain ⟨⟨i,ob⟩,h4,h5⟩:=storeF_det _ _ _ _ _ h3
  refine ⟨_,h4,h1.symm,(fun h=>absurd rfl h),(fun _=>⟨by simp [ho,Op.mw],.inl (by simp [ho,Op.st])⟩),fun e' hp' he hh _ fr ρ a w Q hp hr=>opW_sound hp hr ?_⟩
  unfold opW;simp only [ho]
  rw [ho] at he
  rw [he x (by simp [Op.operands]),he y (by simp [Op.operands])]
  refine ⟨h1,h2,?_⟩
  have h6:=h5 (fun wr=>wr=(i,ob)) rfl
  generalize ev s.env x=x' at h6
  cases x' with
  | ptr i' j off =>
   unfold storeF at h6
   unfold storeW
   dsimp only at h6 ⊢
   cases hob:s.hp.getD i' .dead with
   | dead=>rw [hob] at h6;exact h6.elim
   | map _ _ _=>rw [hob] at h6;exact h6.elim
   | iter _ _ _ _=>rw [hob] at h6;exact h6.elim
   | arr T k pf rows =>
    rw [hob] at h6
    obtain ⟨h7,h8,h9,h10,h11,h12⟩:=h6
    cases h12
    rw [getD_of (hh i (.inr rfl)),hob]
    exact ⟨h7,h8,h9,h10,h11,rfl⟩
  | _=>exact h6.elim
 ·rename_i x ho
  obtain ⟨z,h1,h2⟩:=nilCheckW_det _ _ h
  refine fits_val _ _ (by simp [ho,Op.mr]) h1 fun e' hp' he hh K hk=>?_
  unfold opW;simp only [ho]
  rw [ho] at he
  rw [he x (by simp [Op.operands])];exact h2 _ hk
 ·rename_i op t x y ty ho
  obtain ⟨z,h1,h2⟩:=binW_det _ _ _ _ _ _ h
  refine fits_val _ _ (by simp [ho,Op.mr]) h1 fun e' hp' he hh K hk=>?_
  unfold opW;simp only [ho]
  rw [ho] at he
  rw [he x (by simp [Op.operands]),he y (by simp [Op.operands])];exact h2 _ hk
 ·rename_i op t x ho
  obtain ⟨z,h1,h2⟩:=unW_det _ _ _ h
  refine fits_val _ _ (by simp [ho,Op.mr]) h1 fun e' hp' he hh K hk=>?_
  unfold opW;simp only [ho]
  rw [ho] at he
  rw [he x (by simp [Op.operands])];exact h2 _ hk
 ·rename_i t u x ho
  obtain ⟨z,h1,h2⟩:=convW_det _ _ _ _ h
  refine fits_val _ _ (by simp [ho,Op.mr]) h1 fun e' hp' he hh K hk=>?_
  unfold opW;simp only [ho]
  rw [ho] at he
  rw [he x (by simp [Op.operands])];exact h2 _ hk
 ·rename_i t x lo hi mx ho
  obtain ⟨z,h1,h2⟩:=sliceW_det _ _ _ _ _ _ _ _ h
  refine fits_val _ _ (by simp [ho,Op.mr]) h1 fun e' hp' he hh K hk=>?_
  unfold opW;simp only [ho]
  rw [ho] at he
  rw [he x (by simp [Op.operands]),evo_ev (x:=lo) (e:=s.env) (fun y hy=>he y (by simp [Op.operands];simp at hy;simp [hy])),evo_ev (x:=hi) (e:=s.env) (fun y hy=>he y (by simp [Op.operands];simp at hy;simp [hy])),evo_ev (x:=mx) (e:=s.env) (fun y hy=>he y (by simp [Op.operands];simp at hy;simp [hy]))]
  exact sliceW_hp hh (h2 _ hk)
 ·rename_i t x f ho
  obtain ⟨z,h1,h2⟩:=fieldAddrW_det _ _ _ _ _ h
  refine fits_val _ _ (by simp [ho,Op.mr]) h1 fun e' hp' he hh K hk=>?_
  unfold opW;simp only [ho]
  rw [ho] at he
  rw [he x (by simp [Op.operands])];exact h2 _ hk
 ·rename_i t x f ho
  obtain ⟨z,h1,h2⟩:=fieldW_det _ _ _ _ _ h
  refine fits_val _ _ (by simp [ho,Op.mr]) h1 fun e' hp' he hh K hk=>?_
  unfold opW;simp only [ho]
  rw [ho] at he
  rw [he x (by simp [Op.operands])];exact h2 _ hk
 ·rename_i t x y ho
  obtain ⟨z,h1,h2⟩:=indexAddrW_det _ _ _ _ _ _ h
  refine fits_val _ _ (by simp [ho,Op.mr]) h1 fun e' hp' he hh K hk=>?_
  unfold opW;simp only [ho]
  rw [ho] at he
  rw [he x (by simp [Op.operands]),he y (by simp [Op.operands])];exact indexAddrW_hp hh (h2 _ hk)
 ·rename_i t x y ho
  obtain ⟨z,h1,h2⟩:=indexW_det _ _ _ _ _ h
  refine fits_val _ _ (by simp [ho,Op.mr]) h1 fun e' hp' he hh K hk=>?_
  unfold opW;simp only [ho]
  rw [ho] at he
  rw [he x (by simp [Op.operands]),he y (by simp [Op.operands])];exact h2 _ hk
 ·rename_i x i ho
  obtain ⟨z,h1,h2⟩:=extractW_det _ _ _ h
  refine fits_val _ _ (by simp [ho,Op.mr]) h1 fun e' hp' he hh K hk=>?_
  unfold opW;simp only [ho]
  rw [ho] at he
  rw [he x (by simp [Op.operands])];exact h2 _ hk
 ·rename_i f first cap ho
  refine fits_val _ _ (by simp [ho,Op.mr]) h fun e' hp' he hh K hk=>?_
  unfold opW;simp only [ho]
  rw [ho] at he
  rw [map_ev (l:=first.toList) (e:=s.env) (fun x hx=>he x (by simp [Op.operands];simp at hx;simp [hx])),map_ev (l:=cap.toList) (e:=s.env) (fun x hx=>he x (by simp [Op.operands];simp at hx;simp [hx]))]
  exact hk
 ·rename_i t m x c ho
  obtain ⟨z,h1,h2⟩:=lookW_det _ _ _ _ _ _ _ h
  refine fits_val _ _ (by simp [ho,Op.mr]) h1 fun e' hp' he hh K hk=>?_
  unfold opW;simp only [ho]
  rw [ho] at he
  rw [he m (by simp [Op.operands]),he x (by simp [Op.operands])];exact lookW_hp hh (h2 _ hk)
 ·rename_i x t ho
  obtain ⟨z,h1,h2⟩:=lenW_det _ _ _ h
  refine fits_val _ _ (by simp [ho,Op.mr]) h1 fun e' hp' he hh K hk=>?_
  unfold opW;simp only [ho]
  rw [ho] at he
  rw [he x (by simp [Op.operands,Call.operands])];exact h2 _ hk
 ·rename_i f xs tys ho
  split at h
  ·rename_i g first cap hf
   obtain ⟨h1,r,h3,h4⟩:=h
   refine ⟨_,h4,rfl,(fun h=>absurd rfl h),(fun h=>absurd rfl h),fun e' hp' he hh hn fr ρ a w Q hp hr=>opW_sound hp hr ?_⟩
   unfold opW;simp only [ho]
   rw [ho] at he
   rw [he f (by simp [Op.operands,Call.operands]),map_ev (l:=xs) (e:=s.env) (fun x hx=>he x (by simp [Op.operands,Call.operands,hx])),hf]
   exact ⟨h1,h3.ok (hn (by simp [ho,Op.isCall])) rfl⟩
  ·exact h.elim
 ·exact h.elim
end
def ordered (o:Oper) (j:Nat):Bool:=o.after.any fun e=>Region.binds .any e&&e.on == j
def memOk (x y:Oper):Bool:=!((Op.mw x.op&&(Op.mr y.op || Op.mw y.op)) || (Op.mr x.op&&Op.mw y.op))
def pairOk (ops:Array Oper) (L:List (Nat × Nat)) (j k:Nat):Bool :=
 match ops[j]?,ops[k]? with
 | some x,some y=>ordered y j || (Oper.apart ops x y&&(memOk x y || L.contains (j,k)))
 | _,_=>true
def nwL (ops:Array Oper) (L:List (Nat × Nat)) (i:Nat):Bool:=L.head? == some (1,0) || (L.head? == some (2,0)&&ops.all fun o=>!(Op.mw o.op&&o.dst == some i))
def callOk (ops:Array Oper) (j k:Nat):Bool :=
 match ops[j]?,ops[k]? with
 | some x,some y=>ordered y j || !((Op.isCall x.op&&Op.st y.op) || (Op.st x.op&&Op.isCall y.op))
 | _,_=>true
def nwOk (ops:Array Oper) (L:List (Nat × Nat)) (m:Nat):Bool :=
 (L.head? != some (1,0) || (List.range m).all fun k=>((ops[k]?).map fun o=>!Op.mw o.op).getD true) &&
 (L.head? != some (2,0) || (List.range m).all fun k=>(List.range k).all fun j=>callOk ops j k)
theorem nwOk_at {ops:Array Oper} {L:List (Nat × Nat)} {m:Nat} (h:nwOk ops L m=true) {i:Nat} (hi:nwL ops L i=true) :
  (∀ (k:Nat) (o:Oper),k<m→ops[k]?=some o→Op.mw o.op=false)∨((∀ (k:Nat) (o:Oper),ops[k]?=some o→Op.mw o.op=true→o.dst≠some i)∧∀ (j k:Nat) (x y:Oper),j<k→k<m→ops[j]?=some x→ops[k]?=some y→(Op.isCall x.op=true∧Op.st y.op=true∨Op.st x.op=true∧Op.isCall y.op=true)→ordered y j=true):=by
 unfold nwOk at h
 rw [Bool.and_eq_true,Bool.or_eq_true,Bool.or_eq_true] at h
 unfold nwL at hi
 rw [Bool.or_eq_true] at hi
 rcases hi with hi | hi
 ·left
  intro k o hk ho
  have h1:=h.1.resolve_left (by simpa using hi)
  have h2:=List.all_eq_true.1 h1 k (by simpa using hk)
  rw [ho] at h2
  simpa using h2
 ·right
  rw [Bool.and_eq_true] at hi
  refine ⟨fun k o ho hw hd=>?_,fun j k x y hjk hk hx hy hxy=>?_⟩
  ·have h1:=hi.2
   rw [Array.all_eq_true_iff_forall_mem] at h1
   have:=h1 o (Array.mem_of_getElem? ho)
   rw [hw,hd] at this
   simp at this
  ·have h1:=h.2.resolve_left (by simpa using hi.1)
   have h2:=List.all_eq_true.1 (List.all_eq_true.1 h1 k (by simpa using hk)) j (by simpa using hjk)
   unfold callOk at h2
   rw [hx,hy] at h2
   simp only [Bool.or_eq_true,Bool.not_eq_true'] at h2
   rcases h2 with h2 | h2
   ·exact h2
   ·rcases hxy with ⟨h3,h4⟩ | ⟨h3,h4⟩ <;> (rw [h3,h4] at h2;simp at h2)
def regOk (ops:Array Oper) (L:List (Nat × Nat)):Bool :=
 nwOk ops L ops.size&&(List.range ops.size).all fun k=>((ops[k]?).map fun o=>o.after.all fun e=>!Region.binds .any e || decide (e.on<k)).getD true&&(List.range k).all fun j=>pairOk ops L j k
def Dst (S:Nat→Bool):Nat→List Eff→St→St
 | _,[],s=>s
 | k,f::fs,s=>Dst S (k+1) fs (if S k then f.app s else s)
theorem app_env_ne (f:Eff) (s:St) {t:Nat} (h:f.dst≠some t):(f.app s).env[t]?=s.env[t]?:=by
 unfold Eff.app
 cases hd:f.dst with
 | none=>rfl
 | some d =>
  have:d≠t:=fun e=>h (by rw [hd,e])
  simp only [List.getElem?_set_ne this]
theorem app_hp_ne (f:Eff) (s:St) {i:Nat} (h:f.wi≠some i):(f.app s).hp[i]?=s.hp[i]?:=by
 unfold Eff.app
 unfold Eff.wi at h
 cases hd:f.wr with
 | none=>rfl
 | some p =>
  have:p.1≠i:=fun e=>h (by rw [hd,Option.map_some,e])
  simp only [List.getElem?_set_ne this]
theorem set_self_congr {α:Type} {l m:List α} {t:Nat} {x:α} (h:l[t]?=m[t]?):(l.set t x)[t]?=(m.set t x)[t]?:=by
 rw [List.getElem?_set_self',List.getElem?_set_self',h]
theorem app_env_congr (f:Eff) {s s':St} {t:Nat} (h:s.env[t]?=s'.env[t]?):(f.app s).env[t]?=(f.app s').env[t]?:=by
 by_cases hd:f.dst=some t
 ·unfold Eff.app
  simp only [hd]
  exact set_self_congr h
 ·rw [app_env_ne f s hd,app_env_ne f s' hd,h]
theorem app_hp_congr (f:Eff) {s s':St} {t:Nat} (h:s.hp[t]?=s'.hp[t]?):(f.app s).hp[t]?=(f.app s').hp[t]?:=by
 by_cases hd:f.wi=some t
 ·unfold Eff.app
  unfold Eff.wi at hd
  cases hw:f.wr with
  | none=>rw [hw] at hd;cases hd
  | some p =>
   obtain ⟨i,o⟩:=p
   rw [hw] at hd
   cases hd
   exact set_self_congr h
 ·rw [app_hp_ne f s hd,app_hp_ne f s' hd,h]
theorem Dst_env {S S':Nat→Bool} {t:Nat}:∀ (fs:List Eff) (k:Nat) (s s':St),s.env[t]?=s'.env[t]?→(∀ j f,fs[j]?=some f→f.dst=some t→S (k+j)=S' (k+j))→(Dst S k fs s).env[t]?=(Dst S' k fs s').env[t]?
 | [],k,s,s',h,_=>h
 | f::fs,k,s,s',h,hS=>by
  unfold Dst
  refine Dst_env fs (k+1) _ _ ?_ fun j g hg hd=>by
   have:=hS (j+1) g hg hd
   rwa [show k+(j+1)=k+1+j by omega] at this
  by_cases hd:f.dst=some t
  ·have:=hS 0 f rfl hd
   simp only [Nat.add_zero] at this
   rw [this]
   split
   ·exact app_env_congr f h
   ·exact h
  ·split <;> split <;> simp only [app_env_ne f _ hd,h]
theorem Dst_hp {S S':Nat→Bool} {t:Nat}:∀ (fs:List Eff) (k:Nat) (s s':St),s.hp[t]?=s'.hp[t]?→(∀ j f,fs[j]?=some f→f.wi=some t→S (k+j)=S' (k+j))→(Dst S k fs s).hp[t]?=(Dst S' k fs s').hp[t]?
 | [],k,s,s',h,_=>h
 | f::fs,k,s,s',h,hS=>by
  unfold Dst
  refine Dst_hp fs (k+1) _ _ ?_ fun j g hg hd=>by
   have:=hS (j+1) g hg hd
   rwa [show k+(j+1)=k+1+j by omega] at this
  by_cases hd:f.wi=some t
  ·have:=hS 0 f rfl hd
   simp only [Nat.add_zero] at this
   rw [this]
   split
   ·exact app_hp_congr f h
   ·exact h
  ·split <;> split <;> simp only [app_hp_ne f _ hd,h]
def apartE (f g:Eff):Prop:=(∀ d,f.dst=some d→g.dst≠some d)∧(∀ i,f.wi=some i→g.wi≠some i)
theorem app_comm {f g:Eff} (h:apartE f g) (s:St):f.app (g.app s)=g.app (f.app s):=by
 unfold apartE Eff.wi at h
 obtain ⟨fd,fx,fr,fw⟩:=f
 obtain ⟨gd,gx,gr,gw⟩:=g
 unfold Eff.app
 simp only at h ⊢
 congr 1
 ·cases fd with
  | none=>rfl
  | some d =>
   cases gd with
   | none=>rfl
   | some e=>exact List.set_comm _ _ (fun he=>h.1 d rfl (by rw [he]))
 ·cases fw with
  | none=>rfl
  | some p =>
   cases gw with
   | none=>rfl
   | some q=>exact List.set_comm _ _ (fun he=>h.2 p.1 rfl (by simp [he]))
theorem Dst_app {S:Nat→Bool} {f:Eff}:∀ (fs:List Eff) (k:Nat) (s:St),(∀ j g,fs[j]?=some g→S (k+j)=true→apartE f g)→Dst S k fs (f.app s)=f.app (Dst S k fs s)
 | [],k,s,_=>rfl
 | g::fs,k,s,h=>by
  unfold Dst
  have h0:=h 0 g rfl
  simp only [Nat.add_zero] at h0
  have hrec:∀ s,Dst S (k+1) fs (f.app s)=f.app (Dst S (k+1) fs s):=fun s=>Dst_app fs (k+1) s fun j g' hg hS=>h (j+1) g' hg (by rwa [show k+(j+1)=k+1+j by omega])
  split
  ·rename_i hk
   rw [← app_comm (h0 hk),hrec]
  ·exact hrec s
theorem Dst_congr {S S':Nat→Bool}:∀ (fs:List Eff) (k:Nat) (s:St),(∀ j,j<fs.length→S (k+j)=S' (k+j))→Dst S k fs s=Dst S' k fs s
 | [],k,s,_=>rfl
 | g::fs,k,s,h=>by
  unfold Dst
  have h0:=h 0 (by simp)
  simp only [Nat.add_zero] at h0
  rw [h0]
  exact Dst_congr fs (k+1) _ fun j hj=>by
   have:=h (j+1) (by simp;omega)
   rwa [show k+(j+1)=k+1+j by omega] at this
theorem Dst_insert {S S':Nat→Bool} {f:Eff}:∀ (fs:List Eff) (m k:Nat) (s:St),fs[m]?=some f→S (k+m)=false→S' (k+m)=true→(∀ j,j≠m→S' (k+j)=S (k+j)) →
  (∀ j g,m<j→fs[j]?=some g→S (k+j)=true→apartE f g)→Dst S' k fs s=f.app (Dst S k fs s)
 | [],m,k,s,h,_,_,_,_=>by simp at h
 | g::fs,0,k,s,h,h0,h1,hS,ha=>by
  simp at h
  subst h
  simp only [Nat.add_zero] at h0 h1
  unfold Dst
  rw [h0,h1]
  simp only [if_true,Bool.false_eq_true,if_false]
  rw [Dst_congr (S:=S') (S':=S) fs (k+1) _ fun j hj=>by
   have:=hS (j+1) (by omega)
   rwa [show k+(j+1)=k+1+j by omega] at this]
  exact Dst_app fs (k+1) s fun j g' hg hS'=>ha (j+1) g' (by omega) hg (by rwa [show k+(j+1)=k+1+j by omega])
 | g::fs,m+1,k,s,h,h0,h1,hS,ha=>by
  unfold Dst
  have h2:=hS 0 (by omega)
  simp only [Nat.add_zero] at h2
  rw [h2]
  exact Dst_insert fs m (k+1) _ (by simpa using h) (by rwa [show k+1+m=k+(m+1) by omega]) (by rwa [show k+1+m=k+(m+1) by omega])
   (fun j hj=>by have:=hS (j+1) (by omega);rwa [show k+(j+1)=k+1+j by omega] at this)
   (fun j g' hj hg hS'=>ha (j+1) g' (by omega) (by simpa using hg) (by rwa [show k+(j+1)=k+1+j by omega]))
def unl (listed:Array Bool) (n:Nat):Nat:=(List.range n).countP fun i=>!listed.getD i true
theorem countP_lt {α:Type} {p q:α→Bool}:∀ {l:List α},(∀ x∈l,p x=true→q x=true)→(∃ x∈l,q x=true∧p x=false)→l.countP p<l.countP q
 | [],_,⟨x,hx,_⟩=>by cases hx
 | y::l,h,⟨x,hx,h1,h2⟩=>by
  have hle:l.countP p≤l.countP q:=List.countP_mono_left fun x hx=>h x (List.mem_cons_of_mem _ hx)
  simp only [List.countP_cons]
  rcases List.mem_cons.1 hx with rfl | hx'
  ·simp [h1,h2];omega
  ·have:=countP_lt (fun x hx=>h x (List.mem_cons_of_mem _ hx)) ⟨x,hx',h1,h2⟩
   have:=h y List.mem_cons_self
   cases hp:p y <;> cases hq:q y <;> simp_all <;> omega
section
variable {P:Program} {pins:List Nat} {ops:Array Oper}
def wantB (ops:Array Oper) (o:Oper) (e:List AV):Option Bool :=
 match o.guard with
 | none=>some true
 | some (j,want)=>match guardOf ops e j with
  | .bool b=>some (b == want)
  | .und=>some false
  | _=>none
theorem wantB_sound {w:World} {A:Nat→Prop} {ρ:Pl} {e:List AV} {a:Act} (h:Rps w A ρ e a.tmps.toList) {o:Oper} {b:Bool} (hb:wantB ops o e=some b):Region.wanted o (yielded ops a.tmps)=b:=by
 unfold wantB at hb
 unfold Region.wanted
 split at hb
 ·rename_i hg
  simp only [hg]
  cases hb;rfl
 ·rename_i j want hg
  simp only [hg]
  obtain ⟨g1,g2⟩:=guard_sound (ops:=ops) h j
  split at hb
  ·rename_i b' hb'
   rw [g1 b' hb']
   cases hb
   cases b' <;> cases want <;> rfl
  ·rename_i hb'
   rw [g2 hb']
   cases hb
   rfl
  ·cases hb
theorem wantB_congr {o:Oper} {e e':List AV} (h:∀ t∈o.looksAt ops,e'[t]?=e[t]?):wantB ops o e'=wantB ops o e:=by
 unfold wantB
 cases hg:o.guard with
 | none=>rfl
 | some p =>
  obtain ⟨j,want⟩:=p
  have:guardOf ops e' j=guardOf ops e j:=by
   unfold guardOf
   cases hd:(ops[j]?).bind (·.dst) with
   | none=>rfl
   | some d =>
    simp only [List.getD_eq_getElem?_getD]
    rw [h d (by simp [Oper.looksAt,hg,hd])]
  simp only [this]
def Does (P:Program) (nw:Nat→Bool) (pins:List Nat) (ops:Array Oper) (o:Oper) (f:Eff) (s:St):Prop :=
 f.dst=o.dst∧(f.rd≠none→Op.mr o.op=true)∧(f.wi≠none→Op.mw o.op=true∧(Op.st o.op=true∨f.wi=o.dst)) ∧
 ((wantB ops o s.env=some true∧Fits P nw pins o f s∧∀ x,o.op = .move x→f=⟨o.dst,ev s.env x,none,none⟩)∨(wantB ops o s.env=some false∧f=⟨o.dst,.und,none,none⟩))
def sepP (f g:Option Nat × Option Nat):Prop:=(f.2=none∨(f.2≠g.1∧f.2≠g.2))∧(g.2=none∨g.2≠f.1)
structure Good (P:Program) (nw:Nat→Bool) (pins:List Nat) (ops:Array Oper) (L:List (Nat × Nat)) (fs:List Eff) (s0:St):Prop where
 len:fs.length=ops.size
 does:∀ k f o,fs[k]?=some f→ops[k]?=some o→Does P nw pins ops o f (Dst (fun i=>decide (i<k)) 0 fs s0)
 sep:∀ j k f g,(j,k)∈L→fs[j]?=some f→fs[k]?=some g→sepP (f.rd,f.wi) (g.rd,g.wi)
theorem regOk_at {L:List (Nat × Nat)} (h:regOk ops L=true) {k:Nat} {o:Oper} (ho:ops[k]?=some o):(∀ e∈o.after,Region.binds .any e=true→e.on<k)∧∀ j x,j<k→ops[j]?=some x→ordered o j=true∨(Oper.apart ops x o=true∧(memOk x o=true∨(j,k)∈L)):=by
 have hk:k<ops.size:=(Array.getElem?_eq_some_iff.1 ho).1
 unfold regOk at h
 rw [Bool.and_eq_true] at h
 replace h:=h.2
 have h1:=List.all_eq_true.1 h k (by simpa using hk)
 rw [Bool.and_eq_true,ho] at h1
 refine ⟨fun e he hb=>?_,fun j x hj hx=>?_⟩
 ·have h2:=h1.1
  simp only [Option.map_some,Option.getD_some,Array.all_eq_true_iff_forall_mem] at h2
  have:=h2 e he
  rw [hb] at this
  simpa using this
 ·have h2:=List.all_eq_true.1 h1.2 j (by simpa using hj)
  unfold pairOk at h2
  rw [hx,ho] at h2
  simpa using h2
theorem regOk_nw {L:List (Nat × Nat)} (h:regOk ops L=true):nwOk ops L ops.size=true:=by
 unfold regOk at h
 rw [Bool.and_eq_true] at h
 exact h.1
theorem any_sound {L:List (Nat × Nat)} {fs:List Eff} {s0:St} {fr:Fr} {Q:Exit→Act→World→Prop} (hp:fr.pins=pins) (hok:regOk ops L=true) (hg:Good P (nwL ops L) pins ops L fs s0) (hQ:∀ a w ρ,Rep fr ρ (Dst (fun _=>true) 0 fs s0) a w→Q .normal a w) :
  ∀ (fuel:Nat) (listed:Array Bool) (a:Act) (w:World) (ρ:Pl),listed.size=ops.size→(∀ k o,ops[k]?=some o→listed.getD k false=true→∀ e∈o.after,Region.binds .any e=true→listed.getD e.on false=true) →
   unl listed ops.size≤fuel→Rep fr ρ (Dst (fun i=>listed.getD i false) 0 fs s0) a w→wpAny P .any ops Q fuel listed a w:=by
 have gd:∀ (listed:Array Bool) (i:Nat),listed.size=ops.size→i<ops.size→listed.getD i true=listed.getD i false:=by
  intro listed i hs hi
  have:i<listed.size:=by omega
  simp [this]
 have done:∀ (listed:Array Bool) (a:Act) (w:World) (ρ:Pl),listed.size=ops.size→Region.ready .any ops listed=[]→Rep fr ρ (Dst (fun i=>listed.getD i false) 0 fs s0) a w→Q .normal a w:=by
  intro listed a w ρ hs hr hrep
  refine hQ a w ρ ?_
  rw [Dst_congr (S:=fun _=>true) (S':=fun i=>listed.getD i false)]
  ·exact hrep
  ·intro j hj
   rw [hg.len] at hj
   simp only [Nat.zero_add]
   have key:∀ n j,j<n→j<ops.size→listed.getD j false=true:=by
    intro n
    induction n with
    | zero=>intro j hj;omega
    | succ n ih =>
     intro j hj hjs
     cases hl:listed.getD j false with
     | true=>rfl
     | false =>
      exfalso
      have ho:ops[j]?=some ops[j]:=Array.getElem?_eq_getElem hjs
      have:j∈Region.ready .any ops listed:=by
       rw [mem_ready]
       refine ⟨by rw [gd listed j hs hjs];exact hl,_,ho,fun e he hb=>?_⟩
       have:=(regOk_at hok ho).1 e he hb
       exact ih e.on (by omega) (by omega)
      rw [hr] at this
      cases this
   exact (key (j+1) j (by omega) hj).symm
 intro fuel
 induction fuel with
 | zero =>
  intro listed a w ρ hs hcl hu hrep
  have hnil:Region.ready .any ops listed=[]:=by
   cases hr:Region.ready .any ops listed with
   | nil=>rfl
   | cons x xs =>
    exfalso
    have hx:x∈Region.ready .any ops listed:=by rw [hr];simp
    rw [mem_ready] at hx
    obtain ⟨h1,o,ho,_⟩:=hx
    have hlt:x<ops.size:=(Array.getElem?_eq_some_iff.1 ho).1
    have:0<unl listed ops.size:=by
     unfold unl
     rw [List.countP_pos_iff]
     exact ⟨x,by simpa using hlt,by simp only [h1,Bool.not_false]⟩
    omega
  exact ⟨hnil,done listed a w ρ hs hnil hrep⟩
 | succ fuel ih =>
  intro listed a w ρ hs hcl hu hrep
  refine ⟨fun hr=>done listed a w ρ hs hr hrep,fun k hk=>?_⟩
  rw [mem_ready] at hk
  obtain ⟨hk1,o,ho,hdep⟩:=hk
  have hks:k<ops.size:=(Array.getElem?_eq_some_iff.1 ho).1
  have hk0:listed.getD k false=false:=by rw [← gd listed k hs hks];exact hk1
  have hkl:k<listed.size:=by omega
  obtain ⟨f,hf⟩:∃ f,fs[k]?=some f:=⟨_,List.getElem?_eq_getElem (by rw [hg.len];exact hks)⟩
  obtain ⟨hd1,hd2,hd3,hd4⟩:=hg.does k f o hf ho
  have hlisted:∀ j,ordered o j=true→listed.getD j false=true:=by
   intro j hj
   unfold ordered at hj
   rw [Array.any_eq_true'] at hj
   obtain ⟨e,he,hb⟩:=hj
   simp only [Bool.and_eq_true,beq_iff_eq] at hb
   rw [← hb.2]
   exact hdep e he hb.1
  have hopen:∀ j x,ops[j]?=some x→ordered x k=true→listed.getD j false=false:=by
   intro j x hx hj
   cases hl:listed.getD j false with
   | false=>rfl
   | true =>
    exfalso
    unfold ordered at hj
    rw [Array.any_eq_true'] at hj
    obtain ⟨e,he,hb⟩:=hj
    simp only [Bool.and_eq_true,beq_iff_eq] at hb
    have:=hcl j x hx hl e he hb.1
    rw [hb.2,hk0] at this
    cases this
  have rel:∀ j g x,j≠k→fs[j]?=some g→ops[j]?=some x→(listed.getD j false=decide (j<k)) ∨
    ((∀ t,g.dst=some t→t∉o.looksAt ops)∧(∀ d,g.dst=some d→f.dst≠some d)∧(∀ i,g.wi=some i→f.rd≠some i∧f.wi≠some i)):=by
   intro j g x hjk hgj hxj
   obtain ⟨hx1,hx2,hx3,_⟩:=hg.does j g x hgj hxj
   rcases Nat.lt_or_gt_of_ne hjk with hlt | hgt
   ·rcases (regOk_at hok ho).2 j x hlt hxj with h1 | ⟨h1,h2⟩
    ·exact .inl (by rw [hlisted j h1];simp [hlt])
    ·right
     obtain ⟨a1,a2,a3⟩:=Oper.apart_spec h1
     refine ⟨fun t ht=>a1 t (hx1 ▸ ht),fun d hd=>by rw [hd1];exact a2 d (hx1 ▸ hd),fun i hi=>?_⟩
     rcases h2 with h2 | h2
     ·have hxw:Op.mw x.op=true:=(hx3 (by rw [hi];simp)).1
      unfold memOk at h2
      rw [hxw] at h2
      simp only [Bool.true_and,Bool.not_or,Bool.and_eq_true,Bool.not_eq_true'] at h2
      refine ⟨fun hr=>?_,fun hr=>?_⟩
      ·have:=hd2 (by rw [hr];simp)
       rw [this] at h2;exact absurd h2.1.1 (by simp)
      ·have:=(hd3 (by rw [hr];simp)).1
       rw [this] at h2;exact absurd h2.1.2 (by simp)
     ·have h3:=(hg.sep j k g f h2 hgj hf).1
      simp only [hi] at h3
      rcases h3 with h3 | h3
      ·cases h3
      ·exact ⟨fun h=>h3.1 h.symm,fun h=>h3.2 h.symm⟩
   ·rcases (regOk_at hok hxj).2 k o hgt ho with h1 | ⟨h1,h2⟩
    ·exact .inl (by rw [hopen j x hxj h1];simp;omega)
    ·right
     obtain ⟨a1,a2,a3⟩:=Oper.apart_spec h1
     refine ⟨fun t ht=>a3 t (hx1 ▸ ht),fun d hd hfd=>a2 d (hd1 ▸ hfd) (hx1 ▸ hd),fun i hi=>?_⟩
     rcases h2 with h2 | h2
     ·have hxw:Op.mw x.op=true:=(hx3 (by rw [hi];simp)).1
      unfold memOk at h2
      rw [hxw] at h2
      simp only [Bool.or_true,Bool.and_true,Bool.not_or,Bool.and_eq_true,Bool.not_eq_true'] at h2
      refine ⟨fun hr=>?_,fun hr=>?_⟩
      ·have:=hd2 (by rw [hr];simp)
       rw [this] at h2;exact absurd h2.2 (by simp)
      ·have:=(hd3 (by rw [hr];simp)).1
       rw [this] at h2;exact absurd h2.1 (by simp)
     ·obtain ⟨h4,h3⟩:=hg.sep k j f g h2 hf hgj
      simp only [hi] at h3 h4
      refine ⟨fun h=>?_,fun h=>?_⟩
      ·rcases h3 with h3 | h3
       ·cases h3
       ·exact h3 h.symm
      ·rcases h4 with h4 | h4
       ·rw [h] at h4;cases h4
       ·exact h4.2 h
  have opAt:∀ j g,fs[j]?=some g→∃ x,ops[j]?=some x:=fun j g hj=>by
   have:j<fs.length:=(List.getElem?_eq_some_iff.1 hj).1
   exact ⟨_,Array.getElem?_eq_getElem (by rw [← hg.len];exact this)⟩
  have henv:∀ t∈o.looksAt ops,(Dst (fun i=>listed.getD i false) 0 fs s0).env[t]?=(Dst (fun i=>decide (i<k)) 0 fs s0).env[t]?:=by
   intro t ht
   refine Dst_env fs 0 s0 s0 rfl fun j g hj hd=>?_
   simp only [Nat.zero_add]
   by_cases hjk:j=k
   ·subst hjk;rw [hk0];simp
   ·obtain ⟨x,hx⟩:=opAt j g hj
    rcases rel j g x hjk hj hx with h1 | h1
    ·exact h1
    ·exact absurd ht (h1.1 t hd)
  have hhp:∀ i,f.rd=some i∨f.wi=some i→(Dst (fun i=>listed.getD i false) 0 fs s0).hp[i]?=(Dst (fun i=>decide (i<k)) 0 fs s0).hp[i]?:=by
   intro i hi
   refine Dst_hp fs 0 s0 s0 rfl fun j g hj hd=>?_
   simp only [Nat.zero_add]
   by_cases hjk:j=k
   ·subst hjk;rw [hk0];simp
   ·obtain ⟨x,hx⟩:=opAt j g hj
    rcases rel j g x hjk hj hx with h1 | h1
    ·exact h1
    ·obtain ⟨h2,h3⟩:=h1.2.2 i hd
     rcases hi with hi | hi
     ·exact absurd hi h2
     ·exact absurd hi h3
  have hnw:Op.isCall o.op=true→∀ i,nwL ops L i=true→(Dst (fun i=>listed.getD i false) 0 fs s0).hp[i]?=(Dst (fun i=>decide (i<k)) 0 fs s0).hp[i]?:=by
   intro hc i hi
   refine Dst_hp fs 0 s0 s0 rfl fun j g hj hd=>?_
   simp only [Nat.zero_add]
   by_cases hjk:j=k
   ·subst hjk;rw [hk0];simp
   ·obtain ⟨x,hx⟩:=opAt j g hj
    obtain ⟨_,_,hx3,_⟩:=hg.does j g x hj hx
    obtain ⟨hmw,hst⟩:=hx3 (by rw [hd];simp)
    have hjs:j<ops.size:=(Array.getElem?_eq_some_iff.1 hx).1
    rcases nwOk_at (regOk_nw hok) hi with h | ⟨h1,h2⟩
    ·rw [h j x hjs hx] at hmw;cases hmw
    ·have hs':Op.st x.op=true:=hst.resolve_right fun he=>h1 j x hx hmw (by rw [← he,hd])
     rcases Nat.lt_or_gt_of_ne hjk with hlt | hgt
     ·rw [hlisted j (h2 j k x o hlt hks hx ho (.inr ⟨hs',hc⟩))];simp [hlt]
     ·rw [hopen j x hx (h2 k j o x hgt hjs ho hx (.inl ⟨hc,hs'⟩))];simp;omega
  have hins:Dst (fun i=>(listed.setIfInBounds k true).getD i false) 0 fs s0=f.app (Dst (fun i=>listed.getD i false) 0 fs s0):=by
   refine Dst_insert fs k 0 s0 hf (by simpa using hk0) (by simp [hkl]) (fun j hj=>?_) fun j g hj hgj hS=>?_
   ·simp only [Nat.zero_add]
    exact getD_set_ne false (Ne.symm hj)
   ·simp only [Nat.zero_add] at hS
    obtain ⟨x,hx⟩:=opAt j g hgj
    rcases rel j g x (by omega) hgj hx with h1 | h1
    ·rw [h1] at hS;simp at hS;omega
    ·exact ⟨fun d hd hgd=>h1.2.1 d hgd hd,fun i hi hgi=>(h1.2.2 i hgi).2 hi⟩
  have next:∀ a' w',Ends fr (·=f.app (Dst (fun i=>listed.getD i false) 0 fs s0)) a' w'→wpAny P .any ops Q fuel (listed.setIfInBounds k true) a' w':=by
   rintro a' w' ⟨s',ρ',rfl,hrep'⟩
   refine ih _ a' w' ρ' (by simpa using hs) ?_ ?_ (by rw [hins];exact hrep')
   ·intro j x hx hl e he hb
    by_cases hjk:j=k
    ·subst hjk
     rw [ho] at hx
     cases hx
     exact getD_set_true (hdep e he hb)
    ·rw [getD_set_ne false (Ne.symm hjk)] at hl
     exact getD_set_true (hcl j x hx hl e he hb)
   ·have:unl (listed.setIfInBounds k true) ops.size<unl listed ops.size:=by
     refine countP_lt (fun i hi h=>?_) ⟨k,by simpa using hks,by rw [hk1];rfl,by simp [hkl]⟩
     by_cases hik:i=k
     ·subst hik;simp [hkl] at h
     ·rw [getD_set_ne true (Ne.symm hik)] at h;exact h
    omega
  unfold wpOp
  rw [ho]
  simp only
  rcases hd4 with ⟨hw,hfit,_⟩ | ⟨hw,hfe⟩
  ·rw [← wantB_congr henv] at hw
   rw [if_pos (wantB_sound hrep.env hw)]
   refine .inl (Oper.wp_mono next (hfit _ _ (fun x hx=>?_) hhp hnw fr ρ a w Q hp hrep))
   cases x with
   | tmp t =>
    simp only [ev,List.getD_eq_getElem?_getD]
    rw [henv t (List.mem_append_left _ (List.mem_filterMap.2 ⟨.tmp t,hx,rfl⟩))]
   | _=>rfl
  ·rw [← wantB_congr henv] at hw
   rw [if_neg (by rw [wantB_sound hrep.env hw];simp)]
   refine next _ _ ⟨_,ρ,rfl,?_⟩
   have:=hrep.put o.dst (x := .und) (v:=undef) (by simp only [Rp])
   rw [hfe]
   exact this
def effW (P:Program) (nw:Nat→Bool) (ops:Array Oper) (o:Oper) (s:St) (C:Eff→St→Prop):Prop :=
 match o.guard with
 | none=>opF P nw o s fun f=>C f s
 | some (j,want)=>match guardOf ops s.env j with
  | .bool b=>(b=want→opF P nw o (s.known ops j want) fun f=>C f (s.known ops j want))∧(b=(!want)→C ⟨o.dst,.und,none,none⟩ (s.known ops j (!want)))
  | .und=>C ⟨o.dst,.und,none,none⟩ s
  | _=>False
def sepL (L:List (Nat × Nat)) (acc:List (Option Nat × Option Nat)):Prop:=∀ p∈L,match acc[p.1]?,acc[p.2]? with
 | some f,some g=>sepP f g
 | _,_=>True
def regV (P:Program) (ops:Array Oper) (L:List (Nat × Nat)):List Oper→St→List (Option Nat × Option Nat)→(St→Prop)→Prop
 | [],s,acc,K=>sepL L acc∧K s
 | o::rest,s,acc,K=>effW P (nwL ops L) ops o s fun f s'=>regV P ops L rest (f.app s') (acc++[(f.rd,f.wi)]) K
end
section
variable {P:Program} {pins:List Nat} {ops:Array Oper} {L:List (Nat × Nat)}
theorem effW_does {nw:Nat→Bool} {o:Oper} {s:St} {C0:Eff→St→Prop} (h:effW P nw ops o s C0):∃ f,C0 f s∧Does P nw pins ops o f s:=by
 let C:Eff→Prop:=fun f=>C0 f s
 have yes:∀ (hw:wantB ops o s.env=some true),opF P nw o s C→∃ f,C f∧Does P nw pins ops o f s:=by
  intro hw h
  by_cases hm:∃ x,o.op = .move x
  ·obtain ⟨x,ho⟩:=hm
   have h':opF P nw o s fun f=>C f∧f=⟨o.dst,ev s.env x,none,none⟩:=by
    unfold opF at h ⊢
    simp only [ho] at h ⊢
    exact ⟨h,trivial⟩
   obtain ⟨f,⟨h1,hf⟩,h2,h3,h4,h5⟩:=opF_fits (pins:=pins) h'
   exact ⟨f,h1,h2,h3,h4,.inl ⟨hw,h5,fun y hy=>by rw [ho] at hy;cases hy;exact hf⟩⟩
  ·obtain ⟨f,h1,h2,h3,h4,h5⟩:=opF_fits (pins:=pins) h
   exact ⟨f,h1,h2,h3,h4,.inl ⟨hw,h5,fun x hx=>absurd ⟨x,hx⟩ hm⟩⟩
 have no:∀ (hw:wantB ops o s.env=some false),C ⟨o.dst,.und,none,none⟩→∃ f,C f∧Does P nw pins ops o f s:=by
  intro hw h
  exact ⟨_,h,rfl,(fun h=>absurd rfl h),(fun h=>absurd rfl h),.inr ⟨hw,rfl⟩⟩
 unfold effW at h
 split at h
 ·rename_i hg
  exact yes (by simp [wantB,hg]) h
 ·rename_i j want hg
  split at h
  ·rename_i b hb
   by_cases hbw:b=want
   ·have h1:=h.1 hbw
    rw [← hbw,known_eq hb] at h1
    exact yes (by simp [wantB,hg,hb,hbw]) h1
   ·have hb2:b=!want:=by cases b <;> cases want <;> simp_all
    have h2:=h.2 hb2
    rw [← hb2,known_eq hb] at h2
    exact no (by simp [wantB,hg,hb,hb2]) h2
  ·rename_i hb
   exact no (by simp [wantB,hg,hb]) h
  ·exact h.elim
theorem regV_steps:∀ (l:List Oper) (s:St) (acc:List (Option Nat × Option Nat)) {K:St→Prop},regV P ops L l s acc K →
  ∃ fs:List Eff,fs.length=l.length∧(∀ k f o,fs[k]?=some f→l[k]?=some o→Does P (nwL ops L) pins ops o f (Dst (fun i=>decide (i<k)) 0 fs s))∧sepL L (acc++fs.map fun f=>(f.rd,f.wi))∧K (Dst (fun _=>true) 0 fs s)
 | [],s,acc,K,h=>⟨[],rfl,fun k f o hk=>by simp at hk,by simpa using h.1,h.2⟩
 | o::rest,s,acc,K,h=>by
  obtain ⟨f,h1,h2⟩:=effW_does (pins:=pins) (s:=s) (o:=o) (ops:=ops) (P:=P) (C0:=fun f s'=>regV P ops L rest (f.app s') (acc++[(f.rd,f.wi)]) K) h
  obtain ⟨fs,h3,h4,h5,h6⟩:=regV_steps rest (f.app s) _ h1
  have sh:∀ (S S':Nat→Bool) (k k':Nat) (s:St),(∀ j,S (k+j)=S' (k'+j))→∀ fs:List Eff,Dst S k fs s=Dst S' k' fs s:=by
   intro S S' k k' s hS fs
   induction fs generalizing k k' s with
   | nil=>rfl
   | cons g fs ih =>
    unfold Dst
    have:=hS 0
    simp only [Nat.add_zero] at this
    rw [this]
    exact ih _ _ _ fun j=>by have:=hS (j+1);rwa [show k+(j+1)=k+1+j by omega,show k'+(j+1)=k'+1+j by omega] at this
  refine ⟨f::fs,by simp [h3],fun k g o' hk ho=>?_,?_,?_⟩
  ·cases k with
   | zero =>
    simp at hk ho
    subst hk;subst ho
    have:Dst (fun i=>decide (i<0)) 0 (f::fs) s=s:=by
     rw [Dst_congr (S':=fun _=>false) _ _ _ (fun j _=>by simp)]
     have:∀ (l:List Eff) (k:Nat),Dst (fun _=>false) k l s=s:=by
      intro l
      induction l with
      | nil=>intro k;rfl
      | cons g l ih=>intro k;unfold Dst;simp [ih]
     exact this _ _
    rw [this]
    exact h2
   | succ k =>
    have:=h4 k g o' (by simpa using hk) (by simpa using ho)
    have he:Dst (fun i=>decide (i<k+1)) 0 (f::fs) s=Dst (fun i=>decide (i<k)) 0 fs (f.app s):=by
     show Dst _ (0+1) fs (if decide (0<k+1)=true then f.app s else s)=_
     rw [if_pos (by simp)]
     exact sh _ _ _ _ _ (fun j=>by simp;omega) fs
    rw [he]
    exact this
  ·simpa using h5
  ·show K (Dst _ (0+1) fs (if true=true then f.app s else s))
   rw [if_pos rfl,sh (fun _=>true) (fun _=>true) (0+1) 0 _ (fun _=>rfl) fs]
   exact h6
theorem W_regionD (hm:P.follows .mixedOrders=true) {i:Nat} {Q:Exit→St→Prop} {s:St} (L:List (Nat × Nat)) (hok:regOk ops L=true) (h:regV P ops L ops.toList s [] (Q .normal)):W P pins (.region i ops true) Q s:=by
 intro fr ρ a w hp hr
 obtain ⟨fs,h1,h2,h3,h4⟩:=regV_steps (pins:=pins) _ _ _ h
 have hg:Good P (nwL ops L) pins ops L fs s:=by
  refine ⟨by simpa using h1,fun k f o hk ho=>h2 k f o hk (by simpa using ho),fun j k f g hj hf hg=>?_⟩
  have:=h3 (j,k) hj
  simp only [List.nil_append,List.getElem?_map,hf,hg,Option.map_some] at this
  exact this
 refine wp_region_any hm (any_sound (fr:=fr) hp hok hg (fun a w ρ hr=>⟨_,ρ,h4,hr⟩) ops.size _ a _ ρ (by simp) ?_ ?_ ?_)
 ·intro k o ho hl
  simp only [Array.getD_eq_getD_getElem?,Array.getElem?_replicate] at hl
  split at hl <;> simp at hl
 ·unfold unl
  refine Nat.le_trans List.countP_le_length (by simp)
 ·have:Dst (fun i=>(Array.replicate ops.size false).getD i false) 0 fs s=s:=by
   rw [Dst_congr (S':=fun _=>false) _ _ _ (fun j _=>by
    simp only [Array.getD_eq_getD_getElem?,Array.getElem?_replicate]
    split <;> rfl)]
   have:∀ (l:List Eff) (k:Nat),Dst (fun _=>false) k l s=s:=by
    intro l
    induction l with
    | nil=>intro k;rfl
    | cons g l ih=>intro k;unfold Dst;simp [ih]
   exact this _ _
  rw [this]
  exact hr.heapEq rfl rfl rfl rfl
theorem W_seqD (hm:P.follows .mixedOrders=true) {i:Nat} {Q:Exit→St→Prop} {y:Code} {s:St} (L:List (Nat × Nat)) (hok:regOk ops L=true) (h:∀ K:St→Prop,(∀ s,W P pins y Q s→K s)→regV P ops L ops.toList s [] K):W P pins (.seq (.region i ops true) y) Q s :=
 W_seq (W_regionD hm L hok (h (W P pins y Q) fun _ h=>h))
theorem W_regD (hm:P.follows .mixedOrders=true) {i:Nat} {Q:Exit→St→Prop} {s:St} (L:List (Nat × Nat)) (hok:regOk ops L=true) (h:∀ K:St→Prop,(∀ s,Q .normal s→K s)→regV P ops L ops.toList s [] K):W P pins (.region i ops true) Q s :=
 W_regionD hm L hok (h (Q .normal) fun _ h=>h)
theorem regV_list {fr:Fr} (hp:fr.pins=pins) {K:St→Prop} {Q:Exit→Act→World→Prop} (hQ:∀ a w,Ends fr K a w→Q .normal a w):∀ (l:List Oper) (s:St) (acc:List (Option Nat × Option Nat)) (a:Act) (w:World) (ρ:Pl),Rep fr ρ s a w→regV P ops L l s acc K→wpList P ops Q l a w
 | [],s,acc,a,w,ρ,h,hk=>hQ a w ⟨s,ρ,hk.2,h⟩
 | o::rest,s,acc,a,w,ρ,h,hk=>by
  obtain ⟨f,h1,h2,h3,h4,h5⟩:=effW_does (pins:=pins) (s:=s) (o:=o) (ops:=ops) (P:=P) (C0:=fun f s'=>regV P ops L rest (f.app s') (acc++[(f.rd,f.wi)]) K) hk
  unfold wpList
  rcases h5 with ⟨hw,hfit,_⟩ | ⟨hw,hfe⟩
  ·rw [if_pos (wantB_sound h.env hw)]
   refine .inl (Oper.wp_mono (fun a' w' he=>?_) (hfit _ _ (fun _ _=>rfl) (fun _ _=>rfl) (fun _ _ _=>rfl) fr ρ a w Q hp h))
   obtain ⟨s',ρ',rfl,hr⟩:=he
   exact regV_list hp hQ rest _ _ a' w' ρ' hr h1
  ·rw [if_neg (by rw [wantB_sound h.env hw];simp)]
   subst hfe
   exact regV_list hp hQ rest _ _ _ w ρ (h.put o.dst (x := .und) (v:=undef) (by simp only [Rp])) h1
theorem W_regionV {i:Nat} {Q:Exit→St→Prop} {s:St} (h:regV P ops [] ops.toList s [] (Q .normal)):W P pins (.region i ops false) Q s:=by
 intro fr ρ a w hp hr
 exact wp_region_list (regV_list (fr:=fr) hp (fun a w he=>he) ops.toList s [] a w ρ hr h)
theorem W_seqV {i:Nat} {Q:Exit→St→Prop} {y:Code} {s:St} (h:∀ K:St→Prop,(∀ s,W P pins y Q s→K s)→regV P ops [] ops.toList s [] K):W P pins (.seq (.region i ops false) y) Q s :=
 W_seq (W_regionV (h (W P pins y Q) fun _ h=>h))
theorem W_seqVM {i:Nat} {Q:Exit→St→Prop} {y:Code} {s:St} (h:∀ K:St→Prop,(∀ s,W P pins y Q s→K s)→regV P ops [(1,0)] ops.toList s [] K):W P pins (.seq (.region i ops false) y) Q s :=
 W_seq fun fr ρ a w hp hr=>wp_region_list (regV_list (fr:=fr) hp (fun a w he=>he) ops.toList s [] a w ρ hr (h (W P pins y Q) fun _ h=>h))
theorem W_regV {i:Nat} {Q:Exit→St→Prop} {s:St} (h:∀ K:St→Prop,(∀ s,Q .normal s→K s)→regV P ops [] ops.toList s [] K):W P pins (.region i ops false) Q s :=
 W_regionV (h (Q .normal) fun _ h=>h)
end
theorem unW_neg (k:IntKind) (n:Int) (K:AV→Prop):unW .neg (.int k n) K=K (.int k (k.wrap (0-n))):=propext ⟨fun h=>h,fun h=>h⟩
theorem unW_not (b:Bool) (K:AV→Prop):unW .not (.bool b) K=K (.bool (!b)):=propext ⟨fun h=>h,fun h=>h⟩
theorem unW_xor (k:IntKind) (n:Int) (K:AV→Prop):unW .xor (.int k n) K=K (.int k (bnotI k n)):=propext ⟨fun h=>h,fun h=>h⟩
def u32s (l:List Nat):List (List AV):=l.map fun (x:Nat)=>[.int .u32 (x:Int)]
def cNat (l:List Nat):AV := .sl (u32s l)
theorem u32s_length (l:List Nat):(u32s l).length=l.length:=by simp [u32s]
theorem u32s_all (l:List Nat):AllLen 1 (u32s l):=by
 intro r hr
 simp only [u32s,List.mem_map] at hr
 obtain ⟨x,_,rfl⟩:=hr
 rfl
theorem u32s_getD {l:List Nat} {i:Nat} (h:i<l.length):(u32s l).getD i []=[.int .u32 ((l.getD i 0:Nat):Int)]:=by
 simp [u32s,List.getD_eq_getElem?_getD,h]
theorem u32s_getD_set {l:List Nat} {i j v:Nat} (h:i<l.length):(u32s (l.set j v)).getD i []=[.int .u32 (((l.set j v).getD i 0:Nat):Int)]:=u32s_getD (by simpa using h)
theorem u32s_take (l:List Nat) (n:Nat):(u32s l).take n=u32s (l.take n):=by simp [u32s,List.map_take]
theorem u32s_drop (l:List Nat) (n:Nat):(u32s l).drop n=u32s (l.drop n):=by simp [u32s,List.map_drop]
theorem u32s_set (l:List Nat) (n x:Nat):(u32s l).set n [.int .u32 (x:Int)]=u32s (l.set n x):=by simp [u32s,List.map_set]
theorem u32s_rep (n:Nat):List.replicate n [AV.int .u32 0]=u32s (List.replicate n 0):=by simp [u32s,List.map_replicate]
theorem u32s_one (l:List Nat):AllOne (u32s l):=by
 intro r hr
 simp only [u32s,List.mem_map] at hr
 obtain ⟨y,_,rfl⟩:=hr
 rfl
theorem toNat_natCast (n:Nat):((n:Int)).toNat=n:=rfl
theorem nat_lt_int (m n:Nat):((m:Int)<(n:Int))=(m<n):=by simp
theorem nat_le_int (m n:Nat):((m:Int)≤(n:Int))=(m≤n):=by simp
theorem nat_nonneg (n:Nat):(0≤(n:Int))=True:=by simp
theorem wrap_i64_nat {n:Nat} (h:n<9223372036854775808):IntKind.wrap .i64 (n:Int)=n:=wrap_i64 (by omega) (by omega)
theorem wrap_i64_add {n m:Nat} (h:n+m<9223372036854775808):IntKind.wrap .i64 ((n:Int)+(m:Int))=((n+m:Nat):Int):=by
 rw [wrap_i64 (by omega) (by omega)];omega
theorem wrap_i64_one {n:Nat} (h:n+1<9223372036854775808):IntKind.wrap .i64 ((n:Int)+1)=((n+1:Nat):Int):=by
 rw [wrap_i64 (by omega) (by omega)];omega
theorem wrap_i64_sub {n m:Nat} (h:m≤n) (h':n<9223372036854775808):IntKind.wrap .i64 ((n:Int)-(m:Int))=((n-m:Nat):Int):=by
 rw [wrap_i64 (by omega) (by omega)];omega
theorem wrap_i64_pred {n:Nat} (h:1≤n) (h':n<9223372036854775808):IntKind.wrap .i64 ((n:Int)-1)=((n-1:Nat):Int):=by
 rw [wrap_i64 (by omega) (by omega)];omega
theorem wrap_u64_nat {n:Nat} (h:n<18446744073709551616):IntKind.wrap .u64 (n:Int)=n:=wrap_u64 (by omega) (by omega)
theorem wrap_u64_add {n m:Nat} (h:n+m<18446744073709551616):IntKind.wrap .u64 ((n:Int)+(m:Int))=((n+m:Nat):Int):=by
 rw [wrap_u64 (by omega) (by omega)];omega
theorem wrap_u64_mul {n m:Nat} (h:n*m<18446744073709551616):IntKind.wrap .u64 ((n:Int)*(m:Int))=((n*m:Nat):Int):=by
 rw [← Int.natCast_mul,wrap_u64 (by omega) (by omega)]
theorem wrap_u64_sub {n m:Nat} (h:m≤n) (h':n<18446744073709551616):IntKind.wrap .u64 ((n:Int)-(m:Int))=((n-m:Nat):Int):=by
 rw [wrap_u64 (by omega) (by omega)];omega
theorem wrap_u32_nat (n:Nat):IntKind.wrap .u32 (n:Int)=((n%4294967296:Nat):Int):=by
 have h3:IntKind.wrap .u32 (n:Int)=(n:Int)%4294967296:=by
  unfold IntKind.wrap
  simp [IntKind.bits,IntKind.signed]
 rw [h3];omega
theorem wrap_u8_nat (n:Nat):IntKind.wrap .u8 (n:Int)=((n%256:Nat):Int):=by
 have h3:IntKind.wrap .u8 (n:Int)=(n:Int)%256:=by
  unfold IntKind.wrap
  simp [IntKind.bits,IntKind.signed]
 rw [h3];omega
theorem fdiv_pow (n k:Nat):((n:Int)).fdiv (2^k)=((n / 2^k:Nat):Int):=by
 rw [show ((2:Int)^k)=((2^k:Nat):Int) by simp,Int.fdiv_eq_ediv_of_nonneg _ (Int.natCast_nonneg _)]
 rfl
theorem tdiv_nat (n m:Nat):Int.tdiv (n:Int) (m:Int)=((n / m:Nat):Int):=id rfl
theorem tmod_nat (n m:Nat):Int.tmod (n:Int) (m:Int)=((n%m:Nat):Int):=id rfl
def p2 (k:Nat):Int:=2^k
theorem shl_u64 {n k:Nat} (h:n*2^k<18446744073709551616):IntKind.wrap .u64 ((n:Int)*p2 k)=((n*2^k:Nat):Int):=by
 unfold p2
 rw [show ((n:Int)*2^k)=((n*2^k:Nat):Int) by simp,wrap_u64_nat h]
theorem shl_u32 {n k:Nat}:IntKind.wrap .u32 ((n:Int)*p2 k)=((n*2^k%4294967296:Nat):Int):=by
 unfold p2
 rw [show ((n:Int)*2^k)=((n*2^k:Nat):Int) by simp,wrap_u32_nat]
theorem wrap_i64_32 {n:Nat} (h:n≤32):IntKind.wrap .i64 (32-(n:Int))=((32-n:Nat):Int):=by
 rw [wrap_i64 (by omega) (by omega)];omega
theorem min_u64 {n:Nat} (h:n≤64):min n (IntKind.bits .u64)=n:=Nat.min_eq_left h
theorem min_u32 {n:Nat} (h:n≤32):min n (IntKind.bits .u32)=n:=Nat.min_eq_left h
theorem ofInt_toNat (w n:Nat):(BitVec.ofInt w (n:Int)).toNat=n%2^w:=by
 rw [BitVec.toNat_ofInt]
 have:((n:Int)%((2^w:Nat):Int))=((n%2^w:Nat):Int):=by omega
 rw [this];rfl
theorem and_u32 {x y:Nat} (hx:x<4294967296) (hy:y<4294967296):(BitVec.ofInt (IntKind.bits .u32) (x:Int) &&& BitVec.ofInt (IntKind.bits .u32) (y:Int)).toNat=(x &&& y):=by
 have h1:x%2^IntKind.bits .u32=x:=Nat.mod_eq_of_lt hx
 have h2:y%2^IntKind.bits .u32=y:=Nat.mod_eq_of_lt hy
 rw [BitVec.toNat_and,ofInt_toNat,ofInt_toNat,h1,h2]
theorem or_u32 {x y:Nat} (hx:x<4294967296) (hy:y<4294967296):(BitVec.ofInt (IntKind.bits .u32) (x:Int) ||| BitVec.ofInt (IntKind.bits .u32) (y:Int)).toNat=(x ||| y):=by
 have h1:x%2^IntKind.bits .u32=x:=Nat.mod_eq_of_lt hx
 have h2:y%2^IntKind.bits .u32=y:=Nat.mod_eq_of_lt hy
 rw [BitVec.toNat_or,ofInt_toNat,ofInt_toNat,h1,h2]
theorem xor_u32 {x y:Nat} (hx:x<4294967296) (hy:y<4294967296):(BitVec.ofInt (IntKind.bits .u32) (x:Int) ^^^ BitVec.ofInt (IntKind.bits .u32) (y:Int)).toNat=(x ^^^ y):=by
 have h1:x%2^IntKind.bits .u32=x:=Nat.mod_eq_of_lt hx
 have h2:y%2^IntKind.bits .u32=y:=Nat.mod_eq_of_lt hy
 rw [BitVec.toNat_xor,ofInt_toNat,ofInt_toNat,h1,h2]
theorem or_u64 {x y:Nat} (hx:x<18446744073709551616) (hy:y<18446744073709551616):(BitVec.ofInt (IntKind.bits .u64) (x:Int) ||| BitVec.ofInt (IntKind.bits .u64) (y:Int)).toNat=(x ||| y):=by
 have h1:x%2^IntKind.bits .u64=x:=Nat.mod_eq_of_lt hx
 have h2:y%2^IntKind.bits .u64=y:=Nat.mod_eq_of_lt hy
 rw [BitVec.toNat_or,ofInt_toNat,ofInt_toNat,h1,h2]
theorem xor_ones (n x:Nat) (h:x<2^n):(2^n-1) ^^^ x=2^n-1-x:=by
 refine Nat.eq_of_testBit_eq fun i=>?_
 rw [Nat.testBit_xor,Nat.testBit_two_pow_sub_one,Nat.sub_sub,Nat.add_comm 1 x,Nat.testBit_two_pow_sub_succ h]
 cases hi:decide (i<n) with
 | true=>simp
 | false =>
  simp at hi
  rw [Nat.testBit_lt_two_pow (Nat.lt_of_lt_of_le h (Nat.pow_le_pow_right (by omega) hi))]
  simp
theorem not_u32 {x:Nat} (hx:x<4294967296):(BitVec.ofInt (IntKind.bits .u32) (if IntKind.signed .u32=true then -1 else IntKind.max .u32) ^^^ BitVec.ofInt (IntKind.bits .u32) (x:Int)).toNat=4294967295-x:=by
 have h1:x%2^IntKind.bits .u32=x:=Nat.mod_eq_of_lt hx
 have h2:(BitVec.ofInt (IntKind.bits .u32) (if IntKind.signed .u32=true then -1 else IntKind.max .u32)).toNat=2^32-1:=by decide
 rw [BitVec.toNat_xor,ofInt_toNat,h1,h2,xor_ones 32 x hx]
theorem band_u32 {x y:Nat} (hx:x<4294967296) (hy:y<4294967296):bandI .u32 x y=((x &&& y:Nat):Int):=by
 unfold bandI
 rw [and_u32 hx hy,wrap_u32_nat,Nat.mod_eq_of_lt (Nat.lt_of_le_of_lt Nat.and_le_left hx)]
theorem bor_u32 {x y:Nat} (hx:x<4294967296) (hy:y<4294967296):borI .u32 x y=((x ||| y:Nat):Int):=by
 unfold borI
 rw [or_u32 hx hy,wrap_u32_nat,Nat.mod_eq_of_lt (Nat.or_lt_two_pow (n:=32) hx hy)]
theorem bxor_u32 {x y:Nat} (hx:x<4294967296) (hy:y<4294967296):bxorI .u32 x y=((x ^^^ y:Nat):Int):=by
 unfold bxorI
 rw [xor_u32 hx hy,wrap_u32_nat,Nat.mod_eq_of_lt (Nat.xor_lt_two_pow (n:=32) hx hy)]
theorem bor_u64 {x y:Nat} (hx:x<18446744073709551616) (hy:y<18446744073709551616):borI .u64 x y=((x ||| y:Nat):Int):=by
 unfold borI
 rw [or_u64 hx hy,wrap_u64_nat (Nat.or_lt_two_pow (n:=64) hx hy)]
theorem bnot_u32 {x:Nat} (hx:x<4294967296):bnotI .u32 x=((4294967295-x:Nat):Int):=by
 unfold bnotI
 rw [not_u32 hx,wrap_u32_nat,Nat.mod_eq_of_lt (by omega)]
theorem wrap_u32_sub {x y:Nat} (hy:y≤4294967296):IntKind.wrap .u32 ((x:Int)-(y:Int))=((x+4294967296-y)%4294967296:Nat):=by
 have h3:IntKind.wrap .u32 ((x:Int)-y)=((x:Int)-y)%4294967296:=by
  unfold IntKind.wrap
  simp [IntKind.bits,IntKind.signed]
 rw [h3];omega
theorem range0:List.range 0=[]:=rfl
theorem range1:List.range 1=[0]:=rfl
theorem range2:List.range 2=[0,1]:=rfl
theorem range3:List.range 3=[0,1,2]:=rfl
theorem range4:List.range 4=[0,1,2,3]:=rfl
def retR (P:Program) (rs:List ResultVar) (R:AV→Prop):Exit→St→Prop
 | .normal,s=>resW P s rs fun xs=>R (view s.hp 3 (asOne xs))
 | .ret,s=>resW P s rs fun xs=>R (view s.hp 3 (asOne xs))
 | _,_=>False
def viewRef (o:Ob) (hp:List Ob) (n off m:Nat):AV :=
 match o with
 | .arr _ _ true rows => .sl ((rows.drop off).take m)
 | .arr _ _ false rows=>match n with
  | n+1 => .sl (((rows.drop off).take m).map (views hp n))
  | 0 => .any
 | _ => .any
theorem view_sref (hp:List Ob) (n i off m:Nat):view hp n (.sref i off m)=viewRef (hp.getD i .dead) hp n off m:=by
 cases n <;> (unfold view viewRef;generalize hp.getD i .dead=ob;cases ob with
  | dead=>rfl
  | map _ _ _=>rfl
  | iter _ _ _ _=>rfl
  | arr T k p rows=>cases p <;> rfl)
def viewMap:Ob→AV
 | .map clock births rows => .md clock births rows
 | _ => .any
theorem view_sl (hp:List Ob) (n:Nat) (rows:List (List AV)):view hp n (.sl rows) = .sl rows:=by cases n <;> simp [view]
theorem view_int (hp:List Ob) (n:Nat) (k:IntKind) (x:Int):view hp n (.int k x) = .int k x:=by cases n <;> simp [view]
theorem view_bool (hp:List Ob) (n:Nat) (b:Bool):view hp n (.bool b) = .bool b:=by cases n <;> simp [view]
theorem view_str (hp:List Ob) (n:Nat) (b:ByteArray):view hp n (.str b) = .str b:=by cases n <;> simp [view]
theorem view_nils (hp:List Ob) (n:Nat):view hp n .nils = .sl []:=by cases n <;> simp [view]
theorem view_agg (hp:List Ob) (n:Nat) (l:List AV):view hp n (.agg l) = .agg (views hp n l):=by cases n <;> simp [view]
theorem view_tup (hp:List Ob) (n:Nat) (l:List AV):view hp n (.tup l) = .tup (views hp n l):=by cases n <;> simp [view]
theorem view_nilif (hp:List Ob) (n:Nat):view hp n .nilif = .nilif:=by cases n <;> simp [view]
theorem views_nil (hp:List Ob) (n:Nat):views hp n []=[]:=by cases n <;> simp [views]
theorem views_cons (hp:List Ob) (n:Nat) (x:AV) (l:List AV):views hp n (x::l)=view hp n x::views hp n l:=by cases n <;> simp [views]
theorem asOne_one (x:AV):asOne [x]=x:=rfl
theorem asOne_two (x y:AV):asOne [x,y] = .tup [x,y]:=rfl
theorem asOne_three (x y z:AV):asOne [x,y,z] = .tup [x,y,z]:=rfl
theorem pureW {P:Program} {g:FuncId} {fn:Func} {c:Code} {args:List AV} {R:AV→Prop} (hf:P.funcs[g]?=some fn) (hb:fn.body=some c) {rs:List ResultVar} (hr:fn.results.toList=rs) {n:Nat} (hn:fn.ntmps=n)
  (h:W P [] c (retR P rs R) ⟨args++List.replicate (n-args.length) .und,List.replicate n .dead⟩):Pure P g args R:=by
 subst hr;subst hn
 refine pure_of_W hf hb (h.mono fun e s he=>?_)
 cases e <;> exact he
end Go.Proofs.YtjmkfbhecgkbmaaGreat.Vm
