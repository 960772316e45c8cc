import Derived.Test.YtpagmogboinlpaaZX9
import Derived.Test.YtpagmogboinlpaaZX6
import Derived.Shelf.RegionOpenPlain
import Derived.WalkKit
import Derived.Lib.Walk
import Derived.Lib.SliceRun
import Derived.Laws.Externs
import Derived.Laws.IdiomCopy
namespace Go.Proofs.Ytpagmogboinlpaa.En
open Go Go.RowKit
theorem rm {P:Program} {ops:Array Oper} {o:Oper} {a:Act} {w:World} {K:Act->World->Prop} {Q:Exit->Act->World->Prop} {E:Prop}
  (hg:o.guard=none) (d x:Operand) (dT sT:TypeId) (hop:o.op=Op.call { callee:=Callee.builtin Builtin.copy,args:= #[d,x],argTypes:= #[dT,sT] })
  (v u:Value) (hd:a.eval d=v) (hx:a.eval x=u) {v':Value} {w':World} (hr: (Builtin.copy_ #[dT,sT] o.type #[v,u]).run P w= .ok v' w') (hK:K (a.put o.dst v') w'):
  if Region.wanted o (yielded ops a.tmps)=true then Oper.wp P o a w K Q else E:=by
 have hw:Region.wanted o (yielded ops a.tmps)=true:=by simp[Region.wanted,hg]
 rw[if_pos hw];unfold Oper.wp;simp[execOp,hop,resolve,invoke,builtin,hd,hx,hr,Result.andThen];exact hK
theorem wP {P:Program} {ops:Array Oper} {rest:List Oper} {o:Oper} {a:Act} (w:World) {Q:Exit->Act->World->Prop} (hgd:o.guard=none) (d s:Operand) (t t':TypeId)
  (ho:o.op= .call { callee:= .builtin .copy,args:= #[d,s],argTypes:= #[t,t'] }) (v u:Value) (hd:a.eval d=v) (hs:a.eval s=u) {v':Value} {w':World}
  (hr: (Builtin.copy_ #[t,t'] o.type #[v,u]).run P w= .ok v' w') (h:wpList P ops Q rest (a.put o.dst v') w'):wpList P ops Q (o::rest) a w:=by
 refine wpList_plain hgd fun _ hK=> ?_;unfold Oper.wp execOp;simp only[ho,resolve,invoke,builtin,Sem.run_bind,Sem.run_pure,Result.andThen_ok,List.map_toArray,aL,bW,hd,hs,hr];exact hK _ _ h
theorem zK {P:Program} {f:FuncId} {fn:Func} {c:Code} (hf:P.funcs[f]? =some fn) (hn: (fn.name== "runtime.NumGoroutine")=false) (hc:fn.body=some c) (args:Array Value) (w:World): (callFunc f args).run P w= .ok (.enter f args) w:=by
 have hname': ¬fn.name= "runtime.NumGoroutine" :=by simpa using hn
 simp[callFunc,hf,hname',hc]
theorem uR (t:Ty) (h:t.flatB=true) (l:List t.D):iI t.width (l.map t.row):=by
 intro r hr;obtain⟨x,_,rfl⟩:=aG.1 hr;refine⟨t.row_length x,fun y hy=> ?_⟩;rw[t.row_flat] at hy;obtain⟨c,hc,rfl⟩:=aG.1 hy;have hg:=t.flat_good x c hc
 have hl: (t.flat x).all C.flatB=true:=by
  cases t with
  |st n=>cases n<;>first |rfl|exact absurd h (by decide)
  |ls t=>exact absurd h Bool.false_ne_true
  | _=>rfl
 have hc':=ar.1 hl c hc;cases c with
 |sc v=>exact⟨v,rfl,hg⟩
 |ls _ _=>cases hc'
def zL {α:Type} (by':Nat) (l:List α) (i:Int) (v:List α):Option (List α×Unit):=match v with
 | [x] =>dy (0<=i/\i<=(l.length:Int)) (dy ((l.length+1)*by'<=2 ^ 40) (some (l.take i.toNat++x::l.drop i.toNat,())) none) none
 | _=>none
theorem xD {α:Type} {by':Nat} {l:List α} {i:Int} {v:List α} {y:List α×Unit} (h:zL by' l i v=some y): ∃x,v= [x] /\0<=i/\i.toNat<=l.length/\((i.toNat:Nat):Int)=i/\(l.length+1)*by'<=2 ^ 40/\y=(l.take i.toNat++x::l.drop i.toNat,()):=by
 unfold zL at h;split at h
 ·rename_i x;obtain⟨h1,h⟩:=dN h;obtain⟨h2,h⟩:=dN h;exact⟨x,rfl,h1.1,by omega,by omega,h2,(Option.some.inj h).symm⟩
 ·cases h
def Cr {P:Program} {f t e tn sz:Nat} {i0:TypeInfo} {z:Value} (hw:rV P f t e tn sz i0 z) (el:Ty) (hel:el.width=sz) (hf:el.flatB=true) (by':Nat) (hb:i0.bytes=by') (hp:0<by'):BP P:=
 ⟨vD f,CY el [.ty (.i .i64), .ty (.ls el)] [.ls el] fun l x=>zL by' l x.1 x.2.1,by
  intro args ρ κ r hr;unfold CY at hr;split at hr
  ·rename_i t l xs;split at hr
   ·rename_i l' hl;obtain⟨e',hl⟩:=eH hl;subst e';have hl:l=l':=hl;subst hl;obtain⟨x,hn,hr2⟩:=n5 hr;obtain⟨y,h1,hr3⟩:=aj.1 hr2;obtain⟨i,v,u⟩:=x;cases u;obtain⟨x,rfl,hi0,hi1,e1,hs,rfl⟩:=xD h1;refine⟨_,_, .of_mv ⟨.ls _,l,_,rfl,iE.norm (xz.cons (.inl rfl) hn) ?_⟩,zw _,hr3⟩;have hm:l.length+1<=(l.length+1)*by':=cS _ hp;have eD:=rX hw (rows:=l.map t.row) (row:=t.row x) (i:=(i:Int).toNat) (by rw[<-hel]; exact uR t hf l) (by rw[<-hel]; exact uR t hf [x]) (by rw[ax]; exact hi1) (by rw[ax,hb]; exact hs) (by rw[ax]; omega);rw[e1,<-hel] at eD;have e2: (l.map t.row).take (i:Int).toNat++t.row x:: (l.map t.row).drop (i:Int).toNat=(l.take (i:Int).toNat++x::l.drop (i:Int).toNat).map t.row:=by simp
    have e3: (l.map t.row).length+1=(l.take (i:Int).toNat++x::l.drop (i:Int).toNat).length:=by simp; omega
    rw[e2,e3,ax] at eD;exact eD
   ·cases hr
  ·cases hr⟩
end Go.Proofs.Ytpagmogboinlpaa.En
