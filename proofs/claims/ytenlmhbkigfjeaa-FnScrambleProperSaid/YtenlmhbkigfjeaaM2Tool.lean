/-
  THE RULES BY WHICH A WALK IS REWRITTEN.
-/
import Derived.Test.YtenlmhbkigfjeaaM2SD
set_option linter.unusedVariables false
set_option linter.unusedSimpArgs false
namespace Go.AM
theorem cells_any  : AV.cells AV.any=[AV.any]:=rfl
theorem cells_v (x:Value):AV.cells (AV.v x)=[(AV.v x)]:=rfl
theorem cells_sl (z:Nat) (es:List AV):AV.cells (AV.sl z es)=[(AV.sl z es)]:=rfl
theorem cells_agg (fs:List AV):AV.cells (AV.agg fs)=fs:=rfl
theorem cells_tup (fs:List AV):AV.cells (AV.tup fs)=[(AV.tup fs)]:=rfl
theorem cells_ep (cs:List AV):AV.cells (AV.ep cs)=[(AV.ep cs)]:=rfl
theorem cells_fn (f:FuncId) (caps:List AV):AV.cells (AV.fn f caps)=[(AV.fn f caps)]:=rfl
theorem cells_tr (z:Nat) (es:List AV):AV.cells (AV.tr z es)=[(AV.tr z es)]:=rfl
theorem cells_pt (z:Nat) (x:AV):AV.cells (AV.pt z x)=[(AV.pt z x)]:=rfl
theorem cells_mt (kd:Bool) (m:Value→Option Value):AV.cells (AV.mt kd m)=[(AV.mt kd m)]:=rfl
theorem cells_ref (s:Nat) (p:Path) (z o n:Nat):AV.cells (AV.ref s p z o n)=[(AV.ref s p z o n)]:=rfl
theorem cells_loc (s:Nat) (p:Path) (i j:Nat):AV.cells (AV.loc s p i j)=[(AV.loc s p i j)]:=rfl
theorem cells_mref (s:Nat) (p:Path):AV.cells (AV.mref s p)=[(AV.mref s p)]:=rfl
theorem cells_lst (z:Nat) (es:List AV):AV.cells (AV.lst z es)=[(AV.lst z es)]:=rfl
theorem cells_bx (cs:List AV):AV.cells (AV.bx cs)=[(AV.bx cs)]:=rfl
theorem cells_ifc  : AV.cells AV.ifc=[AV.ifc]:=rfl
theorem isNode_any  : AV.isNode AV.any=false:=rfl
theorem isNode_v (x:Value):AV.isNode (AV.v x)=false:=rfl
theorem isNode_sl (z:Nat) (es:List AV):AV.isNode (AV.sl z es)=false:=rfl
theorem isNode_agg (fs:List AV):AV.isNode (AV.agg fs)=false:=rfl
theorem isNode_tup (fs:List AV):AV.isNode (AV.tup fs)=false:=rfl
theorem isNode_ep (cs:List AV):AV.isNode (AV.ep cs)=false:=rfl
theorem isNode_fn (f:FuncId) (caps:List AV):AV.isNode (AV.fn f caps)=false:=rfl
theorem isNode_tr (z:Nat) (es:List AV):AV.isNode (AV.tr z es)=true:=rfl
theorem isNode_pt (z:Nat) (x:AV):AV.isNode (AV.pt z x)=true:=rfl
theorem isNode_mt (kd:Bool) (m:Value→Option Value):AV.isNode (AV.mt kd m)=true:=rfl
theorem isNode_ref (s:Nat) (p:Path) (z o n:Nat):AV.isNode (AV.ref s p z o n)=false:=rfl
theorem isNode_loc (s:Nat) (p:Path) (i j:Nat):AV.isNode (AV.loc s p i j)=false:=rfl
theorem isNode_mref (s:Nat) (p:Path):AV.isNode (AV.mref s p)=false:=rfl
theorem isNode_lst (z:Nat) (es:List AV):AV.isNode (AV.lst z es)=false:=rfl
theorem isNode_bx (cs:List AV):AV.isNode (AV.bx cs)=false:=rfl
theorem isNode_ifc  : AV.isNode AV.ifc=false:=rfl
theorem cellAt_tr (z:Nat) (es:List AV) (i j:Nat):(AV.tr z es).cellAt i j=(es.getD i .any).cells.getD j .any:=rfl
theorem cellAt_pt (z:Nat) (x:AV) (j:Nat):(AV.pt z x).cellAt 0 j=x.cells.getD j .any:=rfl
theorem cellAt_agg (fs:List AV) (j:Nat):(AV.agg fs).cellAt 0 j=fs.getD j .any:=rfl
theorem cellAt_tup (fs:List AV) (j:Nat):(AV.tup fs).cellAt 0 j=fs.getD j .any:=rfl
theorem cellAt_any  (i j:Nat):AV.any.cellAt i j=.any:=rfl
theorem cellAt_v (x:Value) (i j:Nat):(AV.v x).cellAt i j=.any:=rfl
theorem cellAt_sl (z:Nat) (es:List AV) (i j:Nat):(AV.sl z es).cellAt i j=.any:=rfl
theorem cellAt_ep (cs:List AV) (i j:Nat):(AV.ep cs).cellAt i j=.any:=rfl
theorem cellAt_fn (f:FuncId) (caps:List AV) (i j:Nat):(AV.fn f caps).cellAt i j=.any:=rfl
theorem cellAt_mt (kd:Bool) (m:Value→Option Value) (i j:Nat):(AV.mt kd m).cellAt i j=.any:=rfl
theorem cellAt_ref (s:Nat) (p:Path) (z o n:Nat) (i j:Nat):(AV.ref s p z o n).cellAt i j=.any:=rfl
theorem cellAt_loc (s:Nat) (p:Path) (i0 j0:Nat) (i j:Nat):(AV.loc s p i0 j0).cellAt i j=.any:=rfl
theorem cellAt_mref (s:Nat) (p:Path) (i j:Nat):(AV.mref s p).cellAt i j=.any:=rfl
theorem cellAt_lst (z:Nat) (es:List AV) (i j:Nat):(AV.lst z es).cellAt i j=.any:=rfl
theorem cellAt_bx (cs:List AV) (i j:Nat):(AV.bx cs).cellAt i j=.any:=rfl
theorem cellAt_ifc  (i j:Nat):AV.ifc.cellAt i j=.any:=rfl
theorem at_nil (T:AV):T.at []=T:=rfl
theorem at_cons (T:AV) (i j:Nat) (p:Path):T.at ((i,j) :: p)=(T.cellAt i j).at p:=rfl
theorem setC_any (k:Nat) (y:AV):AV.setC AV.any k y=y:=rfl
theorem setC_v (x:Value) (k:Nat) (y:AV):AV.setC (AV.v x) k y=y:=rfl
theorem setC_sl (z:Nat) (es:List AV) (k:Nat) (y:AV):AV.setC (AV.sl z es) k y=y:=rfl
theorem setC_agg (fs:List AV) (k:Nat) (y:AV):AV.setC (AV.agg fs) k y=.agg (fs.set k y):=rfl
theorem setC_tup (fs:List AV) (k:Nat) (y:AV):AV.setC (AV.tup fs) k y=y:=rfl
theorem setC_ep (cs:List AV) (k:Nat) (y:AV):AV.setC (AV.ep cs) k y=y:=rfl
theorem setC_fn (f:FuncId) (caps:List AV) (k:Nat) (y:AV):AV.setC (AV.fn f caps) k y=y:=rfl
theorem setC_tr (z:Nat) (es:List AV) (k:Nat) (y:AV):AV.setC (AV.tr z es) k y=y:=rfl
theorem setC_pt (z:Nat) (x:AV) (k:Nat) (y:AV):AV.setC (AV.pt z x) k y=y:=rfl
theorem setC_mt (kd:Bool) (m:Value→Option Value) (k:Nat) (y:AV):AV.setC (AV.mt kd m) k y=y:=rfl
theorem setC_ref (s:Nat) (p:Path) (z o n:Nat) (k:Nat) (y:AV):AV.setC (AV.ref s p z o n) k y=y:=rfl
theorem setC_loc (s:Nat) (p:Path) (i j:Nat) (k:Nat) (y:AV):AV.setC (AV.loc s p i j) k y=y:=rfl
theorem setC_mref (s:Nat) (p:Path) (k:Nat) (y:AV):AV.setC (AV.mref s p) k y=y:=rfl
theorem setC_lst (z:Nat) (es:List AV) (k:Nat) (y:AV):AV.setC (AV.lst z es) k y=y:=rfl
theorem setC_bx (cs:List AV) (k:Nat) (y:AV):AV.setC (AV.bx cs) k y=y:=rfl
theorem setC_ifc (k:Nat) (y:AV):AV.setC AV.ifc k y=y:=rfl
theorem setAt_tr (z:Nat) (es:List AV) (i j:Nat) (x:AV):(AV.tr z es).setAt i j x=.tr z (es.set i ((es.getD i .any).setC j x)):=rfl
theorem setAt_pt (z:Nat) (y:AV) (i j:Nat) (x:AV):(AV.pt z y).setAt i j x=.pt z (y.setC j x):=rfl
theorem setAt_agg (fs:List AV) (i j:Nat) (x:AV):(AV.agg fs).setAt i j x=.agg (fs.set j x):=rfl
theorem setAt_tup (fs:List AV) (i j:Nat) (x:AV):(AV.tup fs).setAt i j x=.tup (fs.set j x):=rfl
theorem setP_nil (T x:AV):T.setP [] x=x:=rfl
theorem setP_cons (T:AV) (i j:Nat) (p:Path) (x:AV):T.setP ((i,j) :: p) x=T.setAt i j ((T.cellAt i j).setP p x):=rfl
theorem modP_nil (T:AV) (f:AV→AV):T.modP [] f=f T:=rfl
theorem modP_cons (T:AV) (i j:Nat) (p:Path) (f:AV→AV):T.modP ((i,j) :: p) f=T.setAt i j ((T.cellAt i j).modP p f):=rfl
theorem nodeAt_def (mem:Nat→Option AV) (s:Nat) (p:Path):nodeAt mem s p=(match mem s with | some T=>T.at p | none=>.any):=rfl
theorem fz_any  : AV.fz AV.any=AV.any:=by simp only [AV.fz]
theorem fz_v (x:Value):AV.fz (AV.v x)=(AV.v x):=by simp only [AV.fz]
theorem fz_sl (z:Nat) (es:List AV):AV.fz (AV.sl z es)=(AV.sl z es):=by simp only [AV.fz]
theorem fz_agg (fs:List AV):AV.fz (AV.agg fs)=.agg (AV.fzL fs):=by simp only [AV.fz]
theorem fz_tup (fs:List AV):AV.fz (AV.tup fs)=.tup (AV.fzL fs):=by simp only [AV.fz]
theorem fz_ep (cs:List AV):AV.fz (AV.ep cs)=(AV.ep cs):=by simp only [AV.fz]
theorem fz_fn (f:FuncId) (caps:List AV):AV.fz (AV.fn f caps)=(AV.fn f caps):=by simp only [AV.fz]
theorem fz_tr (z:Nat) (es:List AV):AV.fz (AV.tr z es)=.sl z (AV.fzL es):=by simp only [AV.fz]
theorem fz_pt (z:Nat) (x:AV):AV.fz (AV.pt z x)=.ep (AV.fz x).cells:=by simp only [AV.fz]
theorem fz_mt (kd:Bool) (m:Value→Option Value):AV.fz (AV.mt kd m)=.any:=by simp only [AV.fz]
theorem fz_ref (s:Nat) (p:Path) (z o n:Nat):AV.fz (AV.ref s p z o n)=.any:=by simp only [AV.fz]
theorem fz_loc (s:Nat) (p:Path) (i j:Nat):AV.fz (AV.loc s p i j)=.any:=by simp only [AV.fz]
theorem fz_mref (s:Nat) (p:Path):AV.fz (AV.mref s p)=.any:=by simp only [AV.fz]
theorem fz_lst (z:Nat) (es:List AV):AV.fz (AV.lst z es)=.any:=by simp only [AV.fz]
theorem fz_bx (cs:List AV):AV.fz (AV.bx cs)=.any:=by simp only [AV.fz]
theorem fz_ifc  : AV.fz AV.ifc=AV.ifc:=by simp only [AV.fz]
theorem fzL_nil  : AV.fzL []=[]:=by simp only [AV.fzL]
theorem fzL_cons (a:AV) (r:List AV):AV.fzL (a :: r)=AV.fz a :: AV.fzL r:=by simp only [AV.fzL]
theorem pure_any  : AV.pure AV.any=true:=by simp only [AV.pure]
theorem pure_v (x:Value):AV.pure (AV.v x)=true:=by simp only [AV.pure]
theorem pure_sl (z:Nat) (es:List AV):AV.pure (AV.sl z es)=es.isEmpty:=by simp only [AV.pure]
theorem pure_agg (fs:List AV):AV.pure (AV.agg fs)=AV.pureL fs:=by simp only [AV.pure]
theorem pure_tup (fs:List AV):AV.pure (AV.tup fs)=AV.pureL fs:=by simp only [AV.pure]
theorem pure_ep (cs:List AV):AV.pure (AV.ep cs)=false:=by simp only [AV.pure]
theorem pure_fn (f:FuncId) (caps:List AV):AV.pure (AV.fn f caps)=caps.isEmpty:=by simp only [AV.pure]
theorem pure_tr (z:Nat) (es:List AV):AV.pure (AV.tr z es)=AV.pureL es:=by simp only [AV.pure]
theorem pure_pt (z:Nat) (x:AV):AV.pure (AV.pt z x)=AV.pure x:=by simp only [AV.pure]
theorem pure_mt (kd:Bool) (m:Value→Option Value):AV.pure (AV.mt kd m)=true:=by simp only [AV.pure]
theorem pure_ref (s:Nat) (p:Path) (z o n:Nat):AV.pure (AV.ref s p z o n)=false:=by simp only [AV.pure]
theorem pure_loc (s:Nat) (p:Path) (i j:Nat):AV.pure (AV.loc s p i j)=false:=by simp only [AV.pure]
theorem pure_mref (s:Nat) (p:Path):AV.pure (AV.mref s p)=false:=by simp only [AV.pure]
theorem pure_lst (z:Nat) (es:List AV):AV.pure (AV.lst z es)=false:=by simp only [AV.pure]
theorem pure_bx (cs:List AV):AV.pure (AV.bx cs)=false:=by simp only [AV.pure]
theorem pure_ifc  : AV.pure AV.ifc=true:=by simp only [AV.pure]
theorem pureL_nil  : AV.pureL []=true:=by simp only [AV.pureL]
theorem pureL_cons (a:AV) (r:List AV):AV.pureL (a :: r)=(AV.pure a && AV.pureL r):=by simp only [AV.pureL]
theorem atom_any (t:Nat) (q:Path):AV.atom AV.any t q=AV.any:=rfl
theorem atom_v (x:Value) (t:Nat) (q:Path):AV.atom (AV.v x) t q=(AV.v x):=rfl
theorem atom_sl (z:Nat) (es:List AV) (t:Nat) (q:Path):AV.atom (AV.sl z es) t q=(AV.sl z es):=rfl
theorem atom_agg (fs:List AV) (t:Nat) (q:Path):AV.atom (AV.agg fs) t q=(AV.agg fs):=rfl
theorem atom_tup (fs:List AV) (t:Nat) (q:Path):AV.atom (AV.tup fs) t q=(AV.tup fs):=rfl
theorem atom_ep (cs:List AV) (t:Nat) (q:Path):AV.atom (AV.ep cs) t q=(AV.ep cs):=rfl
theorem atom_fn (f:FuncId) (caps:List AV) (t:Nat) (q:Path):AV.atom (AV.fn f caps) t q=(AV.fn f caps):=rfl
theorem atom_tr (z:Nat) (es:List AV) (t:Nat) (q:Path):AV.atom (AV.tr z es) t q=.ref t q z 0 es.length:=rfl
theorem atom_pt (z:Nat) (x:AV) (t:Nat) (q:Path):AV.atom (AV.pt z x) t q=.loc t q 0 0:=rfl
theorem atom_mt (kd:Bool) (m:Value→Option Value) (t:Nat) (q:Path):AV.atom (AV.mt kd m) t q=.mref t q:=rfl
theorem atom_ref (s:Nat) (p:Path) (z o n:Nat) (t:Nat) (q:Path):AV.atom (AV.ref s p z o n) t q=(AV.ref s p z o n):=rfl
theorem atom_loc (s:Nat) (p:Path) (i j:Nat) (t:Nat) (q:Path):AV.atom (AV.loc s p i j) t q=(AV.loc s p i j):=rfl
theorem atom_mref (s:Nat) (p:Path) (t:Nat) (q:Path):AV.atom (AV.mref s p) t q=(AV.mref s p):=rfl
theorem atom_lst (z:Nat) (es:List AV) (t:Nat) (q:Path):AV.atom (AV.lst z es) t q=(AV.lst z es):=rfl
theorem atom_bx (cs:List AV) (t:Nat) (q:Path):AV.atom (AV.bx cs) t q=(AV.bx cs):=rfl
theorem atom_ifc (t:Nat) (q:Path):AV.atom AV.ifc t q=AV.ifc:=rfl
theorem atomL_nil (s:Nat) (q:Path) (i j:Nat):atomL s q i j []=[]:=rfl
theorem atomL_cons (s:Nat) (q:Path) (i j:Nat) (a:AV) (r:List AV):atomL s q i j (a :: r)=a.atom s (q++[(i,j)]) :: atomL s q i (j+1) r:=rfl
theorem atom1_any (t:Nat) (q:Path):AV.atom1 AV.any t q=AV.any:=rfl
theorem atom1_v (x:Value) (t:Nat) (q:Path):AV.atom1 (AV.v x) t q=(AV.v x):=rfl
theorem atom1_sl (z:Nat) (es:List AV) (t:Nat) (q:Path):AV.atom1 (AV.sl z es) t q=(AV.sl z es):=rfl
theorem atom1_agg (fs:List AV) (t:Nat) (q:Path):AV.atom1 (AV.agg fs) t q=.agg (atomL t q 0 0 fs):=rfl
theorem atom1_tup (fs:List AV) (t:Nat) (q:Path):AV.atom1 (AV.tup fs) t q=(AV.tup fs):=rfl
theorem atom1_ep (cs:List AV) (t:Nat) (q:Path):AV.atom1 (AV.ep cs) t q=(AV.ep cs):=rfl
theorem atom1_fn (f:FuncId) (caps:List AV) (t:Nat) (q:Path):AV.atom1 (AV.fn f caps) t q=(AV.fn f caps):=rfl
theorem atom1_tr (z:Nat) (es:List AV) (t:Nat) (q:Path):AV.atom1 (AV.tr z es) t q=.ref t q z 0 es.length:=rfl
theorem atom1_pt (z:Nat) (x:AV) (t:Nat) (q:Path):AV.atom1 (AV.pt z x) t q=.loc t q 0 0:=rfl
theorem atom1_mt (kd:Bool) (m:Value→Option Value) (t:Nat) (q:Path):AV.atom1 (AV.mt kd m) t q=.mref t q:=rfl
theorem atom1_ref (s:Nat) (p:Path) (z o n:Nat) (t:Nat) (q:Path):AV.atom1 (AV.ref s p z o n) t q=(AV.ref s p z o n):=rfl
theorem atom1_loc (s:Nat) (p:Path) (i j:Nat) (t:Nat) (q:Path):AV.atom1 (AV.loc s p i j) t q=(AV.loc s p i j):=rfl
theorem atom1_mref (s:Nat) (p:Path) (t:Nat) (q:Path):AV.atom1 (AV.mref s p) t q=(AV.mref s p):=rfl
theorem atom1_lst (z:Nat) (es:List AV) (t:Nat) (q:Path):AV.atom1 (AV.lst z es) t q=(AV.lst z es):=rfl
theorem atom1_bx (cs:List AV) (t:Nat) (q:Path):AV.atom1 (AV.bx cs) t q=(AV.bx cs):=rfl
theorem atom1_ifc (t:Nat) (q:Path):AV.atom1 AV.ifc t q=AV.ifc:=rfl
theorem atomT_nil (s:Nat) (q:Path) (j:Nat):atomT s q j []=[]:=rfl
theorem atomT_cons (s:Nat) (q:Path) (j:Nat) (a:AV) (r:List AV):atomT s q j (a :: r)=a.atom1 s (q++[(0,j)]) :: atomT s q (j+1) r:=rfl
theorem atoms_any (t:Nat) (q:Path):AV.atoms AV.any t q=AV.any:=rfl
theorem atoms_v (x:Value) (t:Nat) (q:Path):AV.atoms (AV.v x) t q=(AV.v x):=rfl
theorem atoms_sl (z:Nat) (es:List AV) (t:Nat) (q:Path):AV.atoms (AV.sl z es) t q=(AV.sl z es):=rfl
theorem atoms_agg (fs:List AV) (t:Nat) (q:Path):AV.atoms (AV.agg fs) t q=.agg (atomL t q 0 0 fs):=rfl
theorem atoms_tup (fs:List AV) (t:Nat) (q:Path):AV.atoms (AV.tup fs) t q=.tup (atomT t q 0 fs):=rfl
theorem atoms_ep (cs:List AV) (t:Nat) (q:Path):AV.atoms (AV.ep cs) t q=(AV.ep cs):=rfl
theorem atoms_fn (f:FuncId) (caps:List AV) (t:Nat) (q:Path):AV.atoms (AV.fn f caps) t q=(AV.fn f caps):=rfl
theorem atoms_tr (z:Nat) (es:List AV) (t:Nat) (q:Path):AV.atoms (AV.tr z es) t q=.ref t q z 0 es.length:=rfl
theorem atoms_pt (z:Nat) (x:AV) (t:Nat) (q:Path):AV.atoms (AV.pt z x) t q=.loc t q 0 0:=rfl
theorem atoms_mt (kd:Bool) (m:Value→Option Value) (t:Nat) (q:Path):AV.atoms (AV.mt kd m) t q=.mref t q:=rfl
theorem atoms_ref (s:Nat) (p:Path) (z o n:Nat) (t:Nat) (q:Path):AV.atoms (AV.ref s p z o n) t q=(AV.ref s p z o n):=rfl
theorem atoms_loc (s:Nat) (p:Path) (i j:Nat) (t:Nat) (q:Path):AV.atoms (AV.loc s p i j) t q=(AV.loc s p i j):=rfl
theorem atoms_mref (s:Nat) (p:Path) (t:Nat) (q:Path):AV.atoms (AV.mref s p) t q=(AV.mref s p):=rfl
theorem atoms_lst (z:Nat) (es:List AV) (t:Nat) (q:Path):AV.atoms (AV.lst z es) t q=(AV.lst z es):=rfl
theorem atoms_bx (cs:List AV) (t:Nat) (q:Path):AV.atoms (AV.bx cs) t q=(AV.bx cs):=rfl
theorem atoms_ifc (t:Nat) (q:Path):AV.atoms AV.ifc t q=AV.ifc:=rfl
theorem sig1_any  : AV.sig1 AV.any=.tup [AV.any]:=rfl
theorem sig1_v (x:Value):AV.sig1 (AV.v x)=.tup [(AV.v x)]:=rfl
theorem sig1_sl (z:Nat) (es:List AV):AV.sig1 (AV.sl z es)=.tup [(AV.sl z es)]:=rfl
theorem sig1_agg (fs:List AV):AV.sig1 (AV.agg fs)=.tup [(AV.agg fs)]:=rfl
theorem sig1_tup (fs:List AV):AV.sig1 (AV.tup fs)=.tup [(AV.tup fs)]:=rfl
theorem sig1_ep (cs:List AV):AV.sig1 (AV.ep cs)=.tup [(AV.ep cs)]:=rfl
theorem sig1_fn (f:FuncId) (caps:List AV):AV.sig1 (AV.fn f caps)=.tup [(AV.fn f caps)]:=rfl
theorem sig1_tr (z:Nat) (es:List AV):AV.sig1 (AV.tr z es)=.ref 0 [] z 0 es.length:=rfl
theorem sig1_pt (z:Nat) (x:AV):AV.sig1 (AV.pt z x)=.loc 0 [] z 0:=rfl
theorem sig1_mt (kd:Bool) (m:Value→Option Value):AV.sig1 (AV.mt kd m)=.mref 0 []:=rfl
theorem sig1_ref (s:Nat) (p:Path) (z o n:Nat):AV.sig1 (AV.ref s p z o n)=.tup [(AV.ref s p z o n)]:=rfl
theorem sig1_loc (s:Nat) (p:Path) (i j:Nat):AV.sig1 (AV.loc s p i j)=.tup [(AV.loc s p i j)]:=rfl
theorem sig1_mref (s:Nat) (p:Path):AV.sig1 (AV.mref s p)=.tup [(AV.mref s p)]:=rfl
theorem sig1_lst (z:Nat) (es:List AV):AV.sig1 (AV.lst z es)=.tup [(AV.lst z es)]:=rfl
theorem sig1_bx (cs:List AV):AV.sig1 (AV.bx cs)=.tup [(AV.bx cs)]:=rfl
theorem sig1_ifc  : AV.sig1 AV.ifc=.tup [AV.ifc]:=rfl
theorem sig_any  : AV.sig AV.any=.tup [AV.any]:=rfl
theorem sig_v (x:Value):AV.sig (AV.v x)=.tup [(AV.v x)]:=rfl
theorem sig_sl (z:Nat) (es:List AV):AV.sig (AV.sl z es)=.tup [(AV.sl z es)]:=rfl
theorem sig_agg (fs:List AV):AV.sig (AV.agg fs)=.agg (fs.map AV.sig1):=rfl
theorem sig_tup (fs:List AV):AV.sig (AV.tup fs)=.tup [(AV.tup fs)]:=rfl
theorem sig_ep (cs:List AV):AV.sig (AV.ep cs)=.tup [(AV.ep cs)]:=rfl
theorem sig_fn (f:FuncId) (caps:List AV):AV.sig (AV.fn f caps)=.tup [(AV.fn f caps)]:=rfl
theorem sig_tr (z:Nat) (es:List AV):AV.sig (AV.tr z es)=.ref 0 [] z 0 es.length:=rfl
theorem sig_pt (z:Nat) (x:AV):AV.sig (AV.pt z x)=.loc 0 [] z 0:=rfl
theorem sig_mt (kd:Bool) (m:Value→Option Value):AV.sig (AV.mt kd m)=.mref 0 []:=rfl
theorem sig_ref (s:Nat) (p:Path) (z o n:Nat):AV.sig (AV.ref s p z o n)=.tup [(AV.ref s p z o n)]:=rfl
theorem sig_loc (s:Nat) (p:Path) (i j:Nat):AV.sig (AV.loc s p i j)=.tup [(AV.loc s p i j)]:=rfl
theorem sig_mref (s:Nat) (p:Path):AV.sig (AV.mref s p)=.tup [(AV.mref s p)]:=rfl
theorem sig_lst (z:Nat) (es:List AV):AV.sig (AV.lst z es)=.tup [(AV.lst z es)]:=rfl
theorem sig_bx (cs:List AV):AV.sig (AV.bx cs)=.tup [(AV.bx cs)]:=rfl
theorem sig_ifc  : AV.sig AV.ifc=.tup [AV.ifc]:=rfl
theorem bears_any  : AV.bears AV.any=false:=by simp only [AV.bears]
theorem bears_v (x:Value):AV.bears (AV.v x)=false:=by simp only [AV.bears]
theorem bears_sl (z:Nat) (es:List AV):AV.bears (AV.sl z es)=false:=by simp only [AV.bears]
theorem bears_agg (fs:List AV):AV.bears (AV.agg fs)=AV.bearsL fs:=by simp only [AV.bears]
theorem bears_tup (fs:List AV):AV.bears (AV.tup fs)=AV.bearsL fs:=by simp only [AV.bears]
theorem bears_ep (cs:List AV):AV.bears (AV.ep cs)=false:=by simp only [AV.bears]
theorem bears_fn (f:FuncId) (caps:List AV):AV.bears (AV.fn f caps)=AV.bearsL caps:=by simp only [AV.bears]
theorem bears_tr (z:Nat) (es:List AV):AV.bears (AV.tr z es)=true:=by simp only [AV.bears]
theorem bears_pt (z:Nat) (x:AV):AV.bears (AV.pt z x)=true:=by simp only [AV.bears]
theorem bears_mt (kd:Bool) (m:Value→Option Value):AV.bears (AV.mt kd m)=true:=by simp only [AV.bears]
theorem bears_ref (s:Nat) (p:Path) (z o n:Nat):AV.bears (AV.ref s p z o n)=true:=by simp only [AV.bears]
theorem bears_loc (s:Nat) (p:Path) (i j:Nat):AV.bears (AV.loc s p i j)=true:=by simp only [AV.bears]
theorem bears_mref (s:Nat) (p:Path):AV.bears (AV.mref s p)=true:=by simp only [AV.bears]
theorem bears_lst (z:Nat) (es:List AV):AV.bears (AV.lst z es)=true:=by simp only [AV.bears]
theorem bears_bx (cs:List AV):AV.bears (AV.bx cs)=true:=by simp only [AV.bears]
theorem bears_ifc  : AV.bears AV.ifc=false:=by simp only [AV.bears]
theorem bearsL_nil  : AV.bearsL []=false:=by simp only [AV.bearsL]
theorem bearsL_cons (a:AV) (r:List AV):AV.bearsL (a :: r)=(AV.bears a || AV.bearsL r):=by simp only [AV.bearsL]
theorem node1_any  : AV.node1 AV.any=false:=rfl
theorem node1_v (x:Value):AV.node1 (AV.v x)=false:=rfl
theorem node1_sl (z:Nat) (es:List AV):AV.node1 (AV.sl z es)=false:=rfl
theorem node1_agg (fs:List AV):AV.node1 (AV.agg fs)=fs.any AV.isNode:=rfl
theorem node1_tup (fs:List AV):AV.node1 (AV.tup fs)=false:=rfl
theorem node1_ep (cs:List AV):AV.node1 (AV.ep cs)=false:=rfl
theorem node1_fn (f:FuncId) (caps:List AV):AV.node1 (AV.fn f caps)=false:=rfl
theorem node1_tr (z:Nat) (es:List AV):AV.node1 (AV.tr z es)=true:=rfl
theorem node1_pt (z:Nat) (x:AV):AV.node1 (AV.pt z x)=true:=rfl
theorem node1_mt (kd:Bool) (m:Value→Option Value):AV.node1 (AV.mt kd m)=true:=rfl
theorem node1_ref (s:Nat) (p:Path) (z o n:Nat):AV.node1 (AV.ref s p z o n)=false:=rfl
theorem node1_loc (s:Nat) (p:Path) (i j:Nat):AV.node1 (AV.loc s p i j)=false:=rfl
theorem node1_mref (s:Nat) (p:Path):AV.node1 (AV.mref s p)=false:=rfl
theorem node1_lst (z:Nat) (es:List AV):AV.node1 (AV.lst z es)=false:=rfl
theorem node1_bx (cs:List AV):AV.node1 (AV.bx cs)=false:=rfl
theorem node1_ifc  : AV.node1 AV.ifc=false:=rfl
theorem nodeB_any  : AV.nodeB AV.any=false:=rfl
theorem nodeB_v (x:Value):AV.nodeB (AV.v x)=false:=rfl
theorem nodeB_sl (z:Nat) (es:List AV):AV.nodeB (AV.sl z es)=false:=rfl
theorem nodeB_agg (fs:List AV):AV.nodeB (AV.agg fs)=fs.any AV.isNode:=rfl
theorem nodeB_tup (fs:List AV):AV.nodeB (AV.tup fs)=fs.any AV.node1:=rfl
theorem nodeB_ep (cs:List AV):AV.nodeB (AV.ep cs)=false:=rfl
theorem nodeB_fn (f:FuncId) (caps:List AV):AV.nodeB (AV.fn f caps)=false:=rfl
theorem nodeB_tr (z:Nat) (es:List AV):AV.nodeB (AV.tr z es)=true:=rfl
theorem nodeB_pt (z:Nat) (x:AV):AV.nodeB (AV.pt z x)=true:=rfl
theorem nodeB_mt (kd:Bool) (m:Value→Option Value):AV.nodeB (AV.mt kd m)=true:=rfl
theorem nodeB_ref (s:Nat) (p:Path) (z o n:Nat):AV.nodeB (AV.ref s p z o n)=false:=rfl
theorem nodeB_loc (s:Nat) (p:Path) (i j:Nat):AV.nodeB (AV.loc s p i j)=false:=rfl
theorem nodeB_mref (s:Nat) (p:Path):AV.nodeB (AV.mref s p)=false:=rfl
theorem nodeB_lst (z:Nat) (es:List AV):AV.nodeB (AV.lst z es)=false:=rfl
theorem nodeB_bx (cs:List AV):AV.nodeB (AV.bx cs)=false:=rfl
theorem nodeB_ifc  : AV.nodeB AV.ifc=false:=rfl
theorem view_any (mem:Nat→Option AV):AV.view mem AV.any=AV.any:=by simp only [AV.view]
theorem view_v (x:Value) (mem:Nat→Option AV):AV.view mem (AV.v x)=(AV.v x):=by simp only [AV.view]
theorem view_sl (z:Nat) (es:List AV) (mem:Nat→Option AV):AV.view mem (AV.sl z es)=(AV.sl z es):=by simp only [AV.view]
theorem view_agg (fs:List AV) (mem:Nat→Option AV):AV.view mem (AV.agg fs)=.agg (AV.views mem fs):=by simp only [AV.view]
theorem view_tup (fs:List AV) (mem:Nat→Option AV):AV.view mem (AV.tup fs)=.tup (AV.views mem fs):=by simp only [AV.view]
theorem view_ep (cs:List AV) (mem:Nat→Option AV):AV.view mem (AV.ep cs)=(AV.ep cs):=by simp only [AV.view]
theorem view_fn (f:FuncId) (caps:List AV) (mem:Nat→Option AV):AV.view mem (AV.fn f caps)=.fn f (AV.views mem caps):=by simp only [AV.view]
theorem view_tr (z:Nat) (es:List AV) (mem:Nat→Option AV):AV.view mem (AV.tr z es)=.any:=by simp only [AV.view]
theorem view_pt (z:Nat) (x:AV) (mem:Nat→Option AV):AV.view mem (AV.pt z x)=.any:=by simp only [AV.view]
theorem view_mt (kd:Bool) (m:Value→Option Value) (mem:Nat→Option AV):AV.view mem (AV.mt kd m)=.any:=by simp only [AV.view]
theorem view_ref (s:Nat) (p:Path) (z o n:Nat) (mem:Nat→Option AV):AV.view mem (AV.ref s p z o n)=viewN z o n (nodeAt mem s p):=by simp only [AV.view]
theorem view_loc (s:Nat) (p:Path) (i j:Nat) (mem:Nat→Option AV):AV.view mem (AV.loc s p i j)=viewL i j (nodeAt mem s p):=by simp only [AV.view]
theorem view_mref (s:Nat) (p:Path) (mem:Nat→Option AV):AV.view mem (AV.mref s p)=.any:=by simp only [AV.view]
theorem view_lst (z:Nat) (es:List AV) (mem:Nat→Option AV):AV.view mem (AV.lst z es)=.sl z (AV.views mem es):=by simp only [AV.view]
theorem view_bx (cs:List AV) (mem:Nat→Option AV):AV.view mem (AV.bx cs)=.ep (AV.views mem cs):=by simp only [AV.view]
theorem view_ifc (mem:Nat→Option AV):AV.view mem AV.ifc=AV.ifc:=by simp only [AV.view]
theorem views_nil (mem:Nat→Option AV):AV.views mem []=[]:=by simp only [AV.views]
theorem views_cons (mem:Nat→Option AV) (a:AV) (r:List AV):AV.views mem (a :: r)=AV.view mem a :: AV.views mem r:=by simp only [AV.views]
theorem hRef (s:Nat) (p:Path) (z o n:Nat) (g:Nat→Path→Option (Nat×Path)):AV.mapH g (.ref s p z o n)=(match g s p with | some sp=>.ref sp.1 sp.2 z o n | none=>.any):=by rw [AV.mapH];rfl
theorem hLoc (s:Nat) (p:Path) (i j:Nat) (g:Nat→Path→Option (Nat×Path)):AV.mapH g (.loc s p i j)=(match g s p with | some sp=>.loc sp.1 sp.2 i j | none=>.any):=by rw [AV.mapH];rfl
theorem hMref (s:Nat) (p:Path) (g:Nat→Path→Option (Nat×Path)):AV.mapH g (.mref s p)=(match g s p with | some sp=>.mref sp.1 sp.2 | none=>.any):=by rw [AV.mapH];rfl
theorem mapH_any (g:Nat→Path→Option (Nat×Path)):AV.mapH g AV.any=AV.any:=by simp only [AV.mapH]
theorem mapH_v (x:Value) (g:Nat→Path→Option (Nat×Path)):AV.mapH g (AV.v x)=(AV.v x):=by simp only [AV.mapH]
theorem mapH_sl (z:Nat) (es:List AV) (g:Nat→Path→Option (Nat×Path)):AV.mapH g (AV.sl z es)=(AV.sl z es):=by simp only [AV.mapH]
theorem mapH_agg (fs:List AV) (g:Nat→Path→Option (Nat×Path)):AV.mapH g (AV.agg fs)=.agg (AV.mapHL g fs):=by simp only [AV.mapH]
theorem mapH_tup (fs:List AV) (g:Nat→Path→Option (Nat×Path)):AV.mapH g (AV.tup fs)=.tup (AV.mapHL g fs):=by simp only [AV.mapH]
theorem mapH_ep (cs:List AV) (g:Nat→Path→Option (Nat×Path)):AV.mapH g (AV.ep cs)=(AV.ep cs):=by simp only [AV.mapH]
theorem mapH_fn (f:FuncId) (caps:List AV) (g:Nat→Path→Option (Nat×Path)):AV.mapH g (AV.fn f caps)=.fn f (AV.mapHL g caps):=by simp only [AV.mapH]
theorem mapH_tr (z:Nat) (es:List AV) (g:Nat→Path→Option (Nat×Path)):AV.mapH g (AV.tr z es)=.any:=by simp only [AV.mapH]
theorem mapH_pt (z:Nat) (x:AV) (g:Nat→Path→Option (Nat×Path)):AV.mapH g (AV.pt z x)=.any:=by simp only [AV.mapH]
theorem mapH_mt (kd:Bool) (m:Value→Option Value) (g:Nat→Path→Option (Nat×Path)):AV.mapH g (AV.mt kd m)=.any:=by simp only [AV.mapH]
theorem mapH_lst (z:Nat) (es:List AV) (g:Nat→Path→Option (Nat×Path)):AV.mapH g (AV.lst z es)=.lst z (AV.mapHL g es):=by simp only [AV.mapH]
theorem mapH_bx (cs:List AV) (g:Nat→Path→Option (Nat×Path)):AV.mapH g (AV.bx cs)=.bx (AV.mapHL g cs):=by simp only [AV.mapH]
theorem mapH_ifc (g:Nat→Path→Option (Nat×Path)):AV.mapH g AV.ifc=AV.ifc:=by simp only [AV.mapH]
theorem mapHL_nil (g:Nat→Path→Option (Nat×Path)):AV.mapHL g []=[]:=by simp only [AV.mapHL]
theorem mapHL_cons (a:AV) (r:List AV) (g:Nat→Path→Option (Nat×Path)):AV.mapHL g (a :: r)=AV.mapH g a :: AV.mapHL g r:=by simp only [AV.mapHL]
theorem isPref_nil (q:Path):isPref [] q=true:=by cases q <;> rfl
theorem isPref_cons (a b c d:Nat) (p q:Path):isPref ((a,b) :: p) ((c,d) :: q)=(decide (a=c∧b=d) && isPref p q):=rfl
theorem isPref_cn (a:Nat×Nat) (p:Path):isPref (a :: p) []=false:=rfl
theorem ev_tmp (st:St) (t:Nat):st.ev (.tmp t)=st.fr t:=rfl
theorem ev_const (st:St) (x:Value):st.ev (.const x)=.v x:=rfl
theorem ev_func (st:St) (f:FuncId):st.ev (.func f)=.fn f []:=rfl
theorem ev_global (st:St) (g:Nat):st.ev (.global g)=.any:=rfl
theorem frO_some (st:St) (t:Nat):st.frO (some t)=st.fr t:=rfl
theorem put_fr (st:St) (d i:Nat) (x:AV):(st.put (some d) x).fr i=if i=d then x else st.fr i:=rfl
theorem put_memo (st:St) (d:Option Nat) (x:AV):(st.put d x).mem=st.mem:=by cases d <;> rfl
theorem put_none (st:St) (x:AV):st.put none x=st:=rfl
theorem mapF_fr (st:St) (g:Nat→Path→Option (Nat×Path)) (i:Nat):(st.mapF g).fr i=(st.fr i).mapH g:=rfl
theorem mapF_mem (st:St) (g:Nat→Path→Option (Nat×Path)):(st.mapF g).mem=st.mem:=rfl
theorem setMem_fr (st:St) (s:Nat) (T:AV):(st.setMem s T).fr=st.fr:=rfl
theorem setMem_memo (st:St) (s i:Nat) (T:AV):(st.setMem s T).mem i=if i=s then some T else st.mem i:=rfl
theorem del_fr (st:St) (s:Nat):(st.del s).fr=st.fr:=rfl
theorem del_mem (st:St) (s i:Nat):(st.del s).mem i=if i=s then none else st.mem i:=rfl
theorem kill_fr (st:St) (s i:Nat):(st.kill s).fr i=(st.fr i).mapH (killF s):=rfl
theorem kill_memo (st:St) (s i:Nat):(st.kill s).mem i=if i=s then none else st.mem i:=rfl
theorem rmv_nil (st:St) (t:Nat) (T:AV):st.rmv t [] T=st.del t:=rfl
theorem rmv_cons (st:St) (t:Nat) (a:Nat×Nat) (q:Path) (T:AV):st.rmv t (a :: q) T=st.setMem t (T.setP (a :: q) .any):=rfl
theorem mv_def (st:St) (t:Nat) (q:Path) (T:AV) (s:Nat) (Q:Path):st.mv t q T s Q=(st.mapF (moveF t q s Q)).rmv t q T:=rfl
theorem grow_def (st:St) (s:Nat) (p:Path) (T:AV) (d:Nat):st.grow s p T d=((st.mapF (growF s p d)).rmv s p T).del d:=rfl
theorem init_fr (args:List AV) (i:Nat):(initSt args).fr i=(args.getD i .un).atoms i []:=rfl
theorem init_mem (args:List AV) (i:Nat):(initSt args).mem i=args[i]?:=rfl
theorem grabC_ref (st:St) (t:Nat) (q:Path) (z o m s:Nat) (Q:Path) (K:AV→St→Prop) (l:Lock K):grabC st (.ref t q z o m) s Q K l=vc (o=0) (optP (st.mem t) (fun T=>grabTr st t q z m T s Q K .mk) .mk) .mk:=rfl
theorem grabC_loc (st:St) (t:Nat) (q:Path) (i j s:Nat) (Q:Path) (K:AV→St→Prop) (l:Lock K):grabC st (.loc t q i j) s Q K l=vc (i=0∧j=0) (optP (st.mem t) (fun T=>grabPt st t q T s Q K .mk) .mk) .mk:=rfl
theorem grabC_mref (st:St) (t:Nat) (q:Path) (s:Nat) (Q:Path) (K:AV→St→Prop) (l:Lock K):grabC st (.mref t q) s Q K l=optP (st.mem t) (fun T=>grabMt st t q T s Q K .mk) .mk:=rfl
theorem grabC_any (st:St) (t:Nat) (Q:Path) (K:AV→St→Prop) (l:Lock K):grabC st AV.any t Q K l=vc (AV.bears AV.any=false) (K AV.any st) .mk:=rfl
theorem grabC_v (x:Value) (st:St) (t:Nat) (Q:Path) (K:AV→St→Prop) (l:Lock K):grabC st (AV.v x) t Q K l=vc (AV.bears (AV.v x)=false) (K (AV.v x) st) .mk:=rfl
theorem grabC_sl (z:Nat) (es:List AV) (st:St) (t:Nat) (Q:Path) (K:AV→St→Prop) (l:Lock K):grabC st (AV.sl z es) t Q K l=vc (AV.bears (AV.sl z es)=false) (K (AV.sl z es) st) .mk:=rfl
theorem grabC_agg (fs:List AV) (st:St) (t:Nat) (Q:Path) (K:AV→St→Prop) (l:Lock K):grabC st (AV.agg fs) t Q K l=vc (AV.bears (AV.agg fs)=false) (K (AV.agg fs) st) .mk:=rfl
theorem grabC_tup (fs:List AV) (st:St) (t:Nat) (Q:Path) (K:AV→St→Prop) (l:Lock K):grabC st (AV.tup fs) t Q K l=vc (AV.bears (AV.tup fs)=false) (K (AV.tup fs) st) .mk:=rfl
theorem grabC_ep (cs:List AV) (st:St) (t:Nat) (Q:Path) (K:AV→St→Prop) (l:Lock K):grabC st (AV.ep cs) t Q K l=vc (AV.bears (AV.ep cs)=false) (K (AV.ep cs) st) .mk:=rfl
theorem grabC_fn (f:FuncId) (caps:List AV) (st:St) (t:Nat) (Q:Path) (K:AV→St→Prop) (l:Lock K):grabC st (AV.fn f caps) t Q K l=vc (AV.bears (AV.fn f caps)=false) (K (AV.fn f caps) st) .mk:=rfl
theorem grabC_tr (z:Nat) (es:List AV) (st:St) (t:Nat) (Q:Path) (K:AV→St→Prop) (l:Lock K):grabC st (AV.tr z es) t Q K l=vc (AV.bears (AV.tr z es)=false) (K (AV.tr z es) st) .mk:=rfl
theorem grabC_pt (z:Nat) (x:AV) (st:St) (t:Nat) (Q:Path) (K:AV→St→Prop) (l:Lock K):grabC st (AV.pt z x) t Q K l=vc (AV.bears (AV.pt z x)=false) (K (AV.pt z x) st) .mk:=rfl
theorem grabC_mt (kd:Bool) (m:Value→Option Value) (st:St) (t:Nat) (Q:Path) (K:AV→St→Prop) (l:Lock K):grabC st (AV.mt kd m) t Q K l=vc (AV.bears (AV.mt kd m)=false) (K (AV.mt kd m) st) .mk:=rfl
theorem grabC_lst (z:Nat) (es:List AV) (st:St) (t:Nat) (Q:Path) (K:AV→St→Prop) (l:Lock K):grabC st (AV.lst z es) t Q K l=vc (AV.bears (AV.lst z es)=false) (K (AV.lst z es) st) .mk:=rfl
theorem grabC_bx (cs:List AV) (st:St) (t:Nat) (Q:Path) (K:AV→St→Prop) (l:Lock K):grabC st (AV.bx cs) t Q K l=vc (AV.bears (AV.bx cs)=false) (K (AV.bx cs) st) .mk:=rfl
theorem grabC_ifc (st:St) (t:Nat) (Q:Path) (K:AV→St→Prop) (l:Lock K):grabC st AV.ifc t Q K l=vc (AV.bears AV.ifc=false) (K AV.ifc st) .mk:=rfl
theorem grabCs_nil (s:Nat) (p:Path) (i j:Nat) (st:St) (K:List AV→St→Prop):grabCs s p i j [] st K=K [] st:=rfl
theorem grabCs_cons (s:Nat) (p:Path) (i j:Nat) (x:AV) (r:List AV) (st:St) (K:List AV→St→Prop):grabCs s p i j (x :: r) st K=grabC st x s (p++[(i,j)]) (fun x' st'=>grabCs s p i (j+1) r st' fun l st''=>K (x' :: l) st'') .mk:=rfl
theorem grabE_any (t:Nat) (q:Path) (a b:Nat) (st:St) (K:AV→St→Prop):grabE t q a b AV.any st K=grabC st AV.any t (q++[(a,b)]) K .mk:=rfl
theorem grabE_v (x:Value) (t:Nat) (q:Path) (a b:Nat) (st:St) (K:AV→St→Prop):grabE t q a b (AV.v x) st K=grabC st (AV.v x) t (q++[(a,b)]) K .mk:=rfl
theorem grabE_sl (z:Nat) (es:List AV) (t:Nat) (q:Path) (a b:Nat) (st:St) (K:AV→St→Prop):grabE t q a b (AV.sl z es) st K=grabC st (AV.sl z es) t (q++[(a,b)]) K .mk:=rfl
theorem grabE_agg (fs:List AV) (t:Nat) (q:Path) (a b:Nat) (st:St) (K:AV→St→Prop):grabE t q a b (AV.agg fs) st K=grabCs t q a b fs st fun l st'=>K (.agg l) st':=rfl
theorem grabE_tup (fs:List AV) (t:Nat) (q:Path) (a b:Nat) (st:St) (K:AV→St→Prop):grabE t q a b (AV.tup fs) st K=grabC st (AV.tup fs) t (q++[(a,b)]) K .mk:=rfl
theorem grabE_ep (cs:List AV) (t:Nat) (q:Path) (a b:Nat) (st:St) (K:AV→St→Prop):grabE t q a b (AV.ep cs) st K=grabC st (AV.ep cs) t (q++[(a,b)]) K .mk:=rfl
theorem grabE_fn (f:FuncId) (caps:List AV) (t:Nat) (q:Path) (a b:Nat) (st:St) (K:AV→St→Prop):grabE t q a b (AV.fn f caps) st K=grabC st (AV.fn f caps) t (q++[(a,b)]) K .mk:=rfl
theorem grabE_tr (z:Nat) (es:List AV) (t:Nat) (q:Path) (a b:Nat) (st:St) (K:AV→St→Prop):grabE t q a b (AV.tr z es) st K=grabC st (AV.tr z es) t (q++[(a,b)]) K .mk:=rfl
theorem grabE_pt (z:Nat) (x:AV) (t:Nat) (q:Path) (a b:Nat) (st:St) (K:AV→St→Prop):grabE t q a b (AV.pt z x) st K=grabC st (AV.pt z x) t (q++[(a,b)]) K .mk:=rfl
theorem grabE_mt (kd:Bool) (m:Value→Option Value) (t:Nat) (q:Path) (a b:Nat) (st:St) (K:AV→St→Prop):grabE t q a b (AV.mt kd m) st K=grabC st (AV.mt kd m) t (q++[(a,b)]) K .mk:=rfl
theorem grabE_ref (s:Nat) (p:Path) (z o n:Nat) (t:Nat) (q:Path) (a b:Nat) (st:St) (K:AV→St→Prop):grabE t q a b (AV.ref s p z o n) st K=grabC st (AV.ref s p z o n) t (q++[(a,b)]) K .mk:=rfl
theorem grabE_loc (s:Nat) (p:Path) (i j:Nat) (t:Nat) (q:Path) (a b:Nat) (st:St) (K:AV→St→Prop):grabE t q a b (AV.loc s p i j) st K=grabC st (AV.loc s p i j) t (q++[(a,b)]) K .mk:=rfl
theorem grabE_mref (s:Nat) (p:Path) (t:Nat) (q:Path) (a b:Nat) (st:St) (K:AV→St→Prop):grabE t q a b (AV.mref s p) st K=grabC st (AV.mref s p) t (q++[(a,b)]) K .mk:=rfl
theorem grabE_lst (z:Nat) (es:List AV) (t:Nat) (q:Path) (a b:Nat) (st:St) (K:AV→St→Prop):grabE t q a b (AV.lst z es) st K=grabC st (AV.lst z es) t (q++[(a,b)]) K .mk:=rfl
theorem grabE_bx (cs:List AV) (t:Nat) (q:Path) (a b:Nat) (st:St) (K:AV→St→Prop):grabE t q a b (AV.bx cs) st K=grabC st (AV.bx cs) t (q++[(a,b)]) K .mk:=rfl
theorem grabE_ifc (t:Nat) (q:Path) (a b:Nat) (st:St) (K:AV→St→Prop):grabE t q a b AV.ifc st K=grabC st AV.ifc t (q++[(a,b)]) K .mk:=rfl
theorem grabL_nil (s:Nat) (p:Path) (i:Nat) (st:St) (K:List AV→St→Prop):grabL s p i [] st K=K [] st:=rfl
theorem grabL_cons (s:Nat) (p:Path) (i:Nat) (e:AV) (r:List AV) (st:St) (K:List AV→St→Prop):grabL s p i (e :: r) st K=grabE s p i 0 e st fun e' st'=>grabL s p (i+1) r st' fun l st''=>K (e' :: l) st'':=rfl
theorem setCs_nil (e:AV) (j:Nat):setCs e j []=e:=rfl
theorem setCs_cons (e:AV) (j:Nat) (x:AV) (r:List AV):setCs e j (x :: r)=setCs (e.setC j x) (j+1) r:=rfl
theorem setE_tr (z:Nat) (es:List AV) (i j:Nat) (x:AV):(AV.tr z es).setE i j x=.tr z (es.set i (setEl z (es.getD i .any) j x)):=rfl
theorem setE_pt (z:Nat) (y:AV) (i j:Nat) (x:AV):(AV.pt z y).setE i j x=.pt z (setEl z y j x):=rfl
theorem takeC_ref (mem:Nat→Option AV) (i t:Nat) (q:Path) (z o n:Nat) (r:Path) (K:AV→List Src→Prop) (l:Lock K):takeC mem i (.ref t q z o n) r K l=vc (o=0) (takeTr i t q z n r (nodeAt mem t q) K .mk) .mk:=rfl
theorem takeC_loc (mem:Nat→Option AV) (i t:Nat) (q:Path) (a b:Nat) (r:Path) (K:AV→List Src→Prop) (l:Lock K):takeC mem i (.loc t q a b) r K l=vc (a=0∧b=0) (takePt i t q r (nodeAt mem t q) K .mk) .mk:=rfl
theorem takeC_mref (mem:Nat→Option AV) (i t:Nat) (q:Path) (r:Path) (K:AV→List Src→Prop) (l:Lock K):takeC mem i (.mref t q) r K l=takeMt i t q r (nodeAt mem t q) K .mk:=rfl
theorem takeC_any (mem:Nat→Option AV) (k:Nat) (r:Path) (K:AV→List Src→Prop) (l:Lock K):takeC mem k AV.any r K l=vc (AV.bears AV.any=false) (K AV.any []) .mk:=rfl
theorem takeC_v (x:Value) (mem:Nat→Option AV) (k:Nat) (r:Path) (K:AV→List Src→Prop) (l:Lock K):takeC mem k (AV.v x) r K l=vc (AV.bears (AV.v x)=false) (K (AV.v x) []) .mk:=rfl
theorem takeC_sl (z:Nat) (es:List AV) (mem:Nat→Option AV) (k:Nat) (r:Path) (K:AV→List Src→Prop) (l:Lock K):takeC mem k (AV.sl z es) r K l=vc (AV.bears (AV.sl z es)=false) (K (AV.sl z es) []) .mk:=rfl
theorem takeC_agg (fs:List AV) (mem:Nat→Option AV) (k:Nat) (r:Path) (K:AV→List Src→Prop) (l:Lock K):takeC mem k (AV.agg fs) r K l=vc (AV.bears (AV.agg fs)=false) (K (AV.agg fs) []) .mk:=rfl
theorem takeC_tup (fs:List AV) (mem:Nat→Option AV) (k:Nat) (r:Path) (K:AV→List Src→Prop) (l:Lock K):takeC mem k (AV.tup fs) r K l=vc (AV.bears (AV.tup fs)=false) (K (AV.tup fs) []) .mk:=rfl
theorem takeC_ep (cs:List AV) (mem:Nat→Option AV) (k:Nat) (r:Path) (K:AV→List Src→Prop) (l:Lock K):takeC mem k (AV.ep cs) r K l=vc (AV.bears (AV.ep cs)=false) (K (AV.ep cs) []) .mk:=rfl
theorem takeC_fn (f:FuncId) (caps:List AV) (mem:Nat→Option AV) (k:Nat) (r:Path) (K:AV→List Src→Prop) (l:Lock K):takeC mem k (AV.fn f caps) r K l=vc (AV.bears (AV.fn f caps)=false) (K (AV.fn f caps) []) .mk:=rfl
theorem takeC_tr (z:Nat) (es:List AV) (mem:Nat→Option AV) (k:Nat) (r:Path) (K:AV→List Src→Prop) (l:Lock K):takeC mem k (AV.tr z es) r K l=vc (AV.bears (AV.tr z es)=false) (K (AV.tr z es) []) .mk:=rfl
theorem takeC_pt (z:Nat) (x:AV) (mem:Nat→Option AV) (k:Nat) (r:Path) (K:AV→List Src→Prop) (l:Lock K):takeC mem k (AV.pt z x) r K l=vc (AV.bears (AV.pt z x)=false) (K (AV.pt z x) []) .mk:=rfl
theorem takeC_mt (kd:Bool) (m:Value→Option Value) (mem:Nat→Option AV) (k:Nat) (r:Path) (K:AV→List Src→Prop) (l:Lock K):takeC mem k (AV.mt kd m) r K l=vc (AV.bears (AV.mt kd m)=false) (K (AV.mt kd m) []) .mk:=rfl
theorem takeC_lst (z:Nat) (es:List AV) (mem:Nat→Option AV) (k:Nat) (r:Path) (K:AV→List Src→Prop) (l:Lock K):takeC mem k (AV.lst z es) r K l=vc (AV.bears (AV.lst z es)=false) (K (AV.lst z es) []) .mk:=rfl
theorem takeC_bx (cs:List AV) (mem:Nat→Option AV) (k:Nat) (r:Path) (K:AV→List Src→Prop) (l:Lock K):takeC mem k (AV.bx cs) r K l=vc (AV.bears (AV.bx cs)=false) (K (AV.bx cs) []) .mk:=rfl
theorem takeC_ifc (mem:Nat→Option AV) (k:Nat) (r:Path) (K:AV→List Src→Prop) (l:Lock K):takeC mem k AV.ifc r K l=vc (AV.bears AV.ifc=false) (K AV.ifc []) .mk:=rfl
theorem takeA_any (mem:Nat→Option AV) (k:Nat) (K:AV→List Src→Prop):takeA mem k AV.any K=takeC mem k AV.any [] K .mk:=rfl
theorem takeA_v (x:Value) (mem:Nat→Option AV) (k:Nat) (K:AV→List Src→Prop):takeA mem k (AV.v x) K=takeC mem k (AV.v x) [] K .mk:=rfl
theorem takeA_sl (z:Nat) (es:List AV) (mem:Nat→Option AV) (k:Nat) (K:AV→List Src→Prop):takeA mem k (AV.sl z es) K=takeC mem k (AV.sl z es) [] K .mk:=rfl
theorem takeA_agg (fs:List AV) (mem:Nat→Option AV) (k:Nat) (K:AV→List Src→Prop):takeA mem k (AV.agg fs) K=takeCs mem k 0 fs fun l s=>K (.agg l) s:=rfl
theorem takeA_tup (fs:List AV) (mem:Nat→Option AV) (k:Nat) (K:AV→List Src→Prop):takeA mem k (AV.tup fs) K=takeC mem k (AV.tup fs) [] K .mk:=rfl
theorem takeA_ep (cs:List AV) (mem:Nat→Option AV) (k:Nat) (K:AV→List Src→Prop):takeA mem k (AV.ep cs) K=takeC mem k (AV.ep cs) [] K .mk:=rfl
theorem takeA_fn (f:FuncId) (caps:List AV) (mem:Nat→Option AV) (k:Nat) (K:AV→List Src→Prop):takeA mem k (AV.fn f caps) K=takeC mem k (AV.fn f caps) [] K .mk:=rfl
theorem takeA_tr (z:Nat) (es:List AV) (mem:Nat→Option AV) (k:Nat) (K:AV→List Src→Prop):takeA mem k (AV.tr z es) K=takeC mem k (AV.tr z es) [] K .mk:=rfl
theorem takeA_pt (z:Nat) (x:AV) (mem:Nat→Option AV) (k:Nat) (K:AV→List Src→Prop):takeA mem k (AV.pt z x) K=takeC mem k (AV.pt z x) [] K .mk:=rfl
theorem takeA_mt (kd:Bool) (m:Value→Option Value) (mem:Nat→Option AV) (k:Nat) (K:AV→List Src→Prop):takeA mem k (AV.mt kd m) K=takeC mem k (AV.mt kd m) [] K .mk:=rfl
theorem takeA_ref (s:Nat) (p:Path) (z o n:Nat) (mem:Nat→Option AV) (k:Nat) (K:AV→List Src→Prop):takeA mem k (AV.ref s p z o n) K=takeC mem k (AV.ref s p z o n) [] K .mk:=rfl
theorem takeA_loc (s:Nat) (p:Path) (i j:Nat) (mem:Nat→Option AV) (k:Nat) (K:AV→List Src→Prop):takeA mem k (AV.loc s p i j) K=takeC mem k (AV.loc s p i j) [] K .mk:=rfl
theorem takeA_mref (s:Nat) (p:Path) (mem:Nat→Option AV) (k:Nat) (K:AV→List Src→Prop):takeA mem k (AV.mref s p) K=takeC mem k (AV.mref s p) [] K .mk:=rfl
theorem takeA_lst (z:Nat) (es:List AV) (mem:Nat→Option AV) (k:Nat) (K:AV→List Src→Prop):takeA mem k (AV.lst z es) K=takeC mem k (AV.lst z es) [] K .mk:=rfl
theorem takeA_bx (cs:List AV) (mem:Nat→Option AV) (k:Nat) (K:AV→List Src→Prop):takeA mem k (AV.bx cs) K=takeC mem k (AV.bx cs) [] K .mk:=rfl
theorem takeA_ifc (mem:Nat→Option AV) (k:Nat) (K:AV→List Src→Prop):takeA mem k AV.ifc K=takeC mem k AV.ifc [] K .mk:=rfl
theorem closeC_ref (mem:Nat→Option AV) (t:Nat) (q:Path) (z o n:Nat) (K:AV→List (Nat×Path)→Prop) (l:Lock K):closeC mem (.ref t q z o n) K l=closeTr t q z o n (nodeAt mem t q) K .mk:=rfl
theorem closeC_loc (mem:Nat→Option AV) (t:Nat) (q:Path) (a b:Nat) (K:AV→List (Nat×Path)→Prop) (l:Lock K):closeC mem (.loc t q a b) K l=vc (a=0∧b=0) (closePt t q (nodeAt mem t q) K .mk) .mk:=rfl
theorem closeC_mref (mem:Nat→Option AV) (t:Nat) (q:Path) (K:AV→List (Nat×Path)→Prop) (l:Lock K):closeC mem (.mref t q) K l=closeMt t q (nodeAt mem t q) K .mk:=rfl
theorem closeC_any (mem:Nat→Option AV) (K:AV→List (Nat×Path)→Prop) (l:Lock K):closeC mem AV.any K l=vc (AV.bears AV.any=false) (K AV.any []) .mk:=rfl
theorem closeC_v (x:Value) (mem:Nat→Option AV) (K:AV→List (Nat×Path)→Prop) (l:Lock K):closeC mem (AV.v x) K l=vc (AV.bears (AV.v x)=false) (K (AV.v x) []) .mk:=rfl
theorem closeC_sl (z:Nat) (es:List AV) (mem:Nat→Option AV) (K:AV→List (Nat×Path)→Prop) (l:Lock K):closeC mem (AV.sl z es) K l=vc (AV.bears (AV.sl z es)=false) (K (AV.sl z es) []) .mk:=rfl
theorem closeC_agg (fs:List AV) (mem:Nat→Option AV) (K:AV→List (Nat×Path)→Prop) (l:Lock K):closeC mem (AV.agg fs) K l=vc (AV.bears (AV.agg fs)=false) (K (AV.agg fs) []) .mk:=rfl
theorem closeC_tup (fs:List AV) (mem:Nat→Option AV) (K:AV→List (Nat×Path)→Prop) (l:Lock K):closeC mem (AV.tup fs) K l=vc (AV.bears (AV.tup fs)=false) (K (AV.tup fs) []) .mk:=rfl
theorem closeC_ep (cs:List AV) (mem:Nat→Option AV) (K:AV→List (Nat×Path)→Prop) (l:Lock K):closeC mem (AV.ep cs) K l=vc (AV.bears (AV.ep cs)=false) (K (AV.ep cs) []) .mk:=rfl
theorem closeC_fn (f:FuncId) (caps:List AV) (mem:Nat→Option AV) (K:AV→List (Nat×Path)→Prop) (l:Lock K):closeC mem (AV.fn f caps) K l=vc (AV.bears (AV.fn f caps)=false) (K (AV.fn f caps) []) .mk:=rfl
theorem closeC_tr (z:Nat) (es:List AV) (mem:Nat→Option AV) (K:AV→List (Nat×Path)→Prop) (l:Lock K):closeC mem (AV.tr z es) K l=vc (AV.bears (AV.tr z es)=false) (K (AV.tr z es) []) .mk:=rfl
theorem closeC_pt (z:Nat) (x:AV) (mem:Nat→Option AV) (K:AV→List (Nat×Path)→Prop) (l:Lock K):closeC mem (AV.pt z x) K l=vc (AV.bears (AV.pt z x)=false) (K (AV.pt z x) []) .mk:=rfl
theorem closeC_mt (kd:Bool) (m:Value→Option Value) (mem:Nat→Option AV) (K:AV→List (Nat×Path)→Prop) (l:Lock K):closeC mem (AV.mt kd m) K l=vc (AV.bears (AV.mt kd m)=false) (K (AV.mt kd m) []) .mk:=rfl
theorem closeC_lst (z:Nat) (es:List AV) (mem:Nat→Option AV) (K:AV→List (Nat×Path)→Prop) (l:Lock K):closeC mem (AV.lst z es) K l=vc (AV.bears (AV.lst z es)=false) (K (AV.lst z es) []) .mk:=rfl
theorem closeC_bx (cs:List AV) (mem:Nat→Option AV) (K:AV→List (Nat×Path)→Prop) (l:Lock K):closeC mem (AV.bx cs) K l=vc (AV.bears (AV.bx cs)=false) (K (AV.bx cs) []) .mk:=rfl
theorem closeC_ifc (mem:Nat→Option AV) (K:AV→List (Nat×Path)→Prop) (l:Lock K):closeC mem AV.ifc K l=vc (AV.bears AV.ifc=false) (K AV.ifc []) .mk:=rfl
theorem closeA_any (mem:Nat→Option AV) (K:AV→List (Nat×Path)→Prop):closeA mem AV.any K=closeC mem AV.any K .mk:=rfl
theorem closeA_v (x:Value) (mem:Nat→Option AV) (K:AV→List (Nat×Path)→Prop):closeA mem (AV.v x) K=closeC mem (AV.v x) K .mk:=rfl
theorem closeA_sl (z:Nat) (es:List AV) (mem:Nat→Option AV) (K:AV→List (Nat×Path)→Prop):closeA mem (AV.sl z es) K=closeC mem (AV.sl z es) K .mk:=rfl
theorem closeA_agg (fs:List AV) (mem:Nat→Option AV) (K:AV→List (Nat×Path)→Prop):closeA mem (AV.agg fs) K=closeCs mem fs fun l s=>K (.agg l) s:=rfl
theorem closeA_tup (fs:List AV) (mem:Nat→Option AV) (K:AV→List (Nat×Path)→Prop):closeA mem (AV.tup fs) K=closeC mem (AV.tup fs) K .mk:=rfl
theorem closeA_ep (cs:List AV) (mem:Nat→Option AV) (K:AV→List (Nat×Path)→Prop):closeA mem (AV.ep cs) K=closeC mem (AV.ep cs) K .mk:=rfl
theorem closeA_fn (f:FuncId) (caps:List AV) (mem:Nat→Option AV) (K:AV→List (Nat×Path)→Prop):closeA mem (AV.fn f caps) K=closeC mem (AV.fn f caps) K .mk:=rfl
theorem closeA_tr (z:Nat) (es:List AV) (mem:Nat→Option AV) (K:AV→List (Nat×Path)→Prop):closeA mem (AV.tr z es) K=closeC mem (AV.tr z es) K .mk:=rfl
theorem closeA_pt (z:Nat) (x:AV) (mem:Nat→Option AV) (K:AV→List (Nat×Path)→Prop):closeA mem (AV.pt z x) K=closeC mem (AV.pt z x) K .mk:=rfl
theorem closeA_mt (kd:Bool) (m:Value→Option Value) (mem:Nat→Option AV) (K:AV→List (Nat×Path)→Prop):closeA mem (AV.mt kd m) K=closeC mem (AV.mt kd m) K .mk:=rfl
theorem closeA_ref (s:Nat) (p:Path) (z o n:Nat) (mem:Nat→Option AV) (K:AV→List (Nat×Path)→Prop):closeA mem (AV.ref s p z o n) K=closeC mem (AV.ref s p z o n) K .mk:=rfl
theorem closeA_loc (s:Nat) (p:Path) (i j:Nat) (mem:Nat→Option AV) (K:AV→List (Nat×Path)→Prop):closeA mem (AV.loc s p i j) K=closeC mem (AV.loc s p i j) K .mk:=rfl
theorem closeA_mref (s:Nat) (p:Path) (mem:Nat→Option AV) (K:AV→List (Nat×Path)→Prop):closeA mem (AV.mref s p) K=closeC mem (AV.mref s p) K .mk:=rfl
theorem closeA_lst (z:Nat) (es:List AV) (mem:Nat→Option AV) (K:AV→List (Nat×Path)→Prop):closeA mem (AV.lst z es) K=closeC mem (AV.lst z es) K .mk:=rfl
theorem closeA_bx (cs:List AV) (mem:Nat→Option AV) (K:AV→List (Nat×Path)→Prop):closeA mem (AV.bx cs) K=closeC mem (AV.bx cs) K .mk:=rfl
theorem closeA_ifc (mem:Nat→Option AV) (K:AV→List (Nat×Path)→Prop):closeA mem AV.ifc K=closeC mem AV.ifc K .mk:=rfl
end Go.AM
namespace Go.AM
theorem argsOf_nil (mem:Nat→Option AV):argsOf mem [] []=[]:=rfl
theorem argsOf_some (mem:Nat→Option AV) (c a:AV) (l:List (Option AV)) (r:List AV):argsOf mem (some c :: l) (a :: r)=c :: argsOf mem l r:=rfl
theorem argsOf_none (mem:Nat→Option AV) (a:AV) (l:List (Option AV)) (r:List AV):argsOf mem (none :: l) (a :: r)=a.view mem :: argsOf mem l r:=rfl
theorem lentOf_nil:lentOf [] []=false:=rfl
theorem lentOf_some (c a:AV) (l:List (Option AV)) (r:List AV):lentOf (some c :: l) (a :: r)=lentOf l r:=rfl
theorem lentOf_none (a:AV) (l:List (Option AV)) (r:List AV):lentOf (none :: l) (a :: r)=(a.bears || lentOf l r):=rfl
theorem divB_cons (a b c d:Nat) (p q:Path):divB ((a,b) :: p) ((c,d) :: q)=(!decide (a=c∧b=d) || divB p q):=rfl
theorem divB_nl (q:Path):divB [] q=false:=by cases q <;> rfl
theorem divB_nr (p:Path):divB p []=false:=by cases p <;> rfl
theorem sigsOk_nil (as:List AV):sigsOk as []=True:=by cases as <;> rfl
theorem sigsOk_some (a T:AV) (as:List AV) (r:List (Option AV)):sigsOk (a :: as) (some T :: r)=(T.sig=a.sig∧sigsOk as r):=rfl
theorem sigsOk_none (a:AV) (as:List AV) (r:List (Option AV)):sigsOk (a :: as) (none :: r)=sigsOk as r:=rfl
section
variable (mem:Nat→Option AV) (i:Nat) (a:AV) (r:List AV) (ms:List Bool) (K:List (Option AV)→List Src→Prop)
theorem takeAll_nil:takeAll mem i ms [] K=K [] []:=by cases ms <;> rfl
theorem takeAll_t:takeAll mem i (true :: ms) (a :: r) K=takeA mem i a fun c s=>takeAll mem (i+1) ms r fun l s'=>K (some c :: l) (s++s'):=rfl
theorem takeAll_f:takeAll mem i (false :: ms) (a :: r) K=takeAll mem (i+1) ms r fun l s=>K (none :: l) s:=rfl
theorem takeAll_n:takeAll mem i [] (a :: r) K=takeAll mem (i+1) [] r fun l s=>K (none :: l) s:=rfl
end
theorem takeCs_nil (mem:Nat→Option AV) (i j:Nat) (K:List AV→List Src→Prop):takeCs mem i j [] K=K [] []:=rfl
theorem takeCs_cons (mem:Nat→Option AV) (i j:Nat) (x:AV) (r:List AV) (K:List AV→List Src→Prop):takeCs mem i j (x :: r) K=takeC mem i x [(0,j)] (fun x' s=>takeCs mem i (j+1) r fun l s'=>K (x' :: l) (s++s')) .mk:=rfl
theorem rootsOf_nil:rootsOf []=[]:=rfl
theorem rootsOf_cons (i t:Nat) (r q:Path) (s:List Src):rootsOf ((i,r,t,q) :: s)=t :: rootsOf s:=rfl
theorem placesOf_nil:placesOf []=[]:=rfl
theorem placesOf_cons (i t:Nat) (r q:Path) (s:List Src):placesOf ((i,r,t,q) :: s)=(t,q) :: placesOf s:=rfl
theorem apart1_nil (t:Nat) (q:Path):apart1 t q []=true:=rfl
theorem apart1_cons (t:Nat) (q:Path) (t':Nat) (q':Path) (r:List (Nat×Path)):apart1 t q ((t',q') :: r)=((!decide (t=t') || divB q q') && apart1 t q r):=rfl
theorem apartL_nil:apartL []=true:=rfl
theorem apartL_cons (t:Nat) (q:Path) (r:List (Nat×Path)):apartL ((t,q) :: r)=(apart1 t q r && apartL r):=rfl
theorem giveS_nil (po:Option (Nat→Path→Bool)) (outs:List (Option AV)) (st:St) (K:St→Prop):giveS po outs [] st K=K st:=rfl
theorem giveS_cons (po:Option (Nat→Path→Bool)) (outs:List (Option AV)) (i:Nat) (r:Path) (t:Nat) (q:Path) (s:List Src) (st:St) (K:St→Prop):giveS po outs ((i,r,t,q) :: s) st K=giveO po (outs.getD i none) i r t q st (fun st'=>giveS po outs s st' K) .mk:=rfl
theorem pureO_nil:pureO []=true:=rfl
theorem pureO_some (T:AV) (r:List (Option AV)):pureO (some T :: r)=(T.pure && pureO r):=rfl
theorem pureO_none (r:List (Option AV)):pureO (none :: r)=pureO r:=rfl
theorem closeCs_nil (mem:Nat→Option AV) (K:List AV→List (Nat×Path)→Prop):closeCs mem [] K=K [] []:=rfl
theorem closeCs_cons (mem:Nat→Option AV) (x:AV) (r:List AV) (K:List AV→List (Nat×Path)→Prop):closeCs mem (x :: r) K=closeC mem x (fun x' s=>closeCs mem r fun l s'=>K (x' :: l) (s++s')) .mk:=rfl
theorem closeL_nil (mem:Nat→Option AV) (K:List AV→List (Nat×Path)→Prop):closeL mem [] K=K [] []:=rfl
theorem closeL_cons (mem:Nat→Option AV) (x:AV) (r:List AV) (K:List AV→List (Nat×Path)→Prop):closeL mem (x :: r) K=closeA mem x fun a' s=>closeL mem r fun l s'=>K (a' :: l) (s++s'):=rfl
theorem outRoots_nil (i:Nat):outRoots i []=[]:=rfl
theorem outRoots_some (i:Nat) (T:AV) (r:List (Option AV)):outRoots i (some T :: r)=(i,[]) :: outRoots (i+1) r:=rfl
theorem outRoots_none (i:Nat) (r:List (Option AV)):outRoots i (none :: r)=outRoots (i+1) r:=rfl
theorem outsOk_nil (mem:Nat→Option AV) (i:Nat):outsOk mem i []=True:=rfl
theorem outsOk_some (mem:Nat→Option AV) (i:Nat) (T:AV) (r:List (Option AV)):outsOk mem i (some T :: r)=(mem i=some T∧outsOk mem (i+1) r):=rfl
theorem outsOk_none (mem:Nat→Option AV) (i:Nat) (r:List (Option AV)):outsOk mem i (none :: r)=outsOk mem (i+1) r:=rfl
theorem headOps_nil:headOps []=[]:=rfl
theorem headOps_cons (o:Oper) (r:List Oper):headOps (o :: r)=(match isTail o.op with | true=>[] | false=>o :: headOps r):=rfl
theorem tailOps_nil:tailOps []=[]:=rfl
theorem tailOps_cons (o:Oper) (r:List Oper):tailOps (o :: r)=(match isTail o.op with | true=>o :: r | false=>tailOps r):=rfl
theorem killNew_nil (st:St):killNew [] st=st:=rfl
theorem killNew_some (d:Nat) (o:Op) (t:TypeId) (p:String) (a:Array Edge) (g:Option (Nat×Bool)) (r:List Oper) (st:St):killNew (⟨some d,o,t,p,a,g⟩ :: r) st=(match makesB o with | true=>killNew r (st.kill d) | false=>killNew r st):=by
  rw [killNew];cases makesB o <;> rfl
theorem killNew_none (o:Op) (t:TypeId) (p:String) (a:Array Edge) (g:Option (Nat×Bool)) (r:List Oper) (st:St):killNew (⟨none,o,t,p,a,g⟩ :: r) st=killNew r st:=by
  rw [killNew];cases makesB o <;> rfl
theorem retK_t (args:List AV) (outs:List (Option AV)) (r:AV) (mem:Nat→Option AV) (l:List AV):retK true args outs r mem l=valP (AV.views mem l) (fun l'=>leR l' r) .mk:=rfl
theorem retK_f (args:List AV) (outs:List (Option AV)) (r:AV) (mem:Nat→Option AV) (l:List AV):retK false args outs r mem l=closeL mem l fun l' s=>apartL (outRoots 0 outs++s)=true∧leR l' r∧outsOk mem 0 outs:=rfl
theorem leT_nil:leT [] []=True:=rfl
theorem leT_cons (a b:AV) (r s:List AV):leT (a :: r) (b :: s)=(leA a b∧leT r s):=rfl
theorem leL_nil:leL [] []=True:=rfl
theorem leL_cons (a b:AV) (r s:List AV):leL (a :: r) (b :: s)=(leC a b∧leL r s):=rfl
theorem leA_agg (l l':List AV):leA (.agg l) (.agg l')=leL l l':=rfl
theorem leC_any (a:AV):leC a .any=True:=by cases a <;> rfl
theorem leA_any (a:AV):leA a .any=True:=by cases a <;> rfl
theorem leC_nil_tr (z:Nat) (es:List AV):leC (.v (.slice none 0 0)) (.tr z es)=(es=[]):=rfl
theorem leC_nil_sl (z:Nat) (es:List AV):leC (.v (.slice none 0 0)) (.sl z es)=(es=[]):=rfl
theorem leA_nil_tr (z:Nat) (es:List AV):leA (.v (.slice none 0 0)) (.tr z es)=(es=[]):=rfl
theorem leA_nil_sl (z:Nat) (es:List AV):leA (.v (.slice none 0 0)) (.sl z es)=(es=[]):=rfl
theorem leC_v (x y:Value):leC (.v x) (.v y)=(x=y):=by
  have:leC (.v x) (.v y)=(AV.v x=.v y):=by unfold leC;split <;> first | rfl | simp_all
  rw [this];simp
theorem leA_v (x y:Value):leA (.v x) (.v y)=(x=y):=leC_v x y
theorem leC_sl (z z':Nat) (es es':List AV):leC (.sl z es) (.sl z' es')=(z=z'∧es=es'):=by show (AV.sl z es=.sl z' es')=_;simp
theorem leA_sl (z z':Nat) (es es':List AV):leA (.sl z es) (.sl z' es')=(z=z'∧es=es'):=leC_sl z z' es es'
theorem leC_tr (z z':Nat) (es es':List AV):leC (.tr z es) (.tr z' es')=(z=z'∧es=es'):=by show (AV.tr z es=.tr z' es')=_;simp
theorem leA_tr (z z':Nat) (es es':List AV):leA (.tr z es) (.tr z' es')=(z=z'∧es=es'):=leC_tr z z' es es'
theorem leC_pt (z z':Nat) (x x':AV):leC (.pt z x) (.pt z' x')=(z=z'∧x=x'):=by show (AV.pt z x=.pt z' x')=_;simp
theorem leA_pt (z z':Nat) (x x':AV):leA (.pt z x) (.pt z' x')=(z=z'∧x=x'):=leC_pt z z' x x'
theorem leC_mt (z z':Bool) (x x':Value→Option Value):leC (.mt z x) (.mt z' x')=(z=z'∧x=x'):=by show (AV.mt z x=.mt z' x')=_;simp
theorem leA_mt (z z':Bool) (x x':Value→Option Value):leA (.mt z x) (.mt z' x')=(z=z'∧x=x'):=leC_mt z z' x x'
theorem leA_fn (f f':FuncId) (x x':List AV):leA (.fn f x) (.fn f' x')=(f=f'∧x=x'):=by show (AV.fn f x=.fn f' x')=_;simp
theorem leC_ep (x x':List AV):leC (.ep x) (.ep x')=(x=x'):=by show (AV.ep x=.ep x')=_;simp
theorem leA_ep (x x':List AV):leA (.ep x) (.ep x')=(x=x'):=leC_ep x x'
theorem leC_ifc:leC .ifc .ifc=True:=by show (AV.ifc=.ifc)=_;simp
theorem leA_ifc:leA .ifc .ifc=True:=leC_ifc

theorem wrap64_id {x:Int} (h:-9223372036854775808≤x∧x≤9223372036854775807):IntKind.i64.wrap x=x:=IntWalk.i64_in _ h
theorem lt_true {a b:Int} (h:a<b):decide (a<b)=true:=by simpa using h
theorem lt_false {a b:Int} (h:b≤a):decide (a<b)=false:=by simp;omega
theorem le_true {a b:Int} (h:a≤b):decide (a≤b)=true:=by simpa using h
theorem le_false {a b:Int} (h:b<a):decide (a≤b)=false:=by simp;omega
theorem eq_true {a b:Int} (h:a=b):(a == b)=true:=by simpa using h
theorem eq_false {a b:Int} (h:a≠b):(a == b)=false:=by simpa using h
theorem ne_true {a b:Int} (h:a≠b):(a != b)=true:=by simpa using h
theorem ne_false {a b:Int} (h:a=b):(a != b)=false:=by simpa using h
end Go.AM
set_option maxRecDepth 4000
namespace Go.AM
theorem amPre:type_of% (And.intro (And.intro (And.intro (And.intro (And.intro (@AWP_skip) (And.intro (@AWP_seq) (@AWP_block))) (And.intro (@AWP_exit) (And.intro (@AWP_ret)
  (@AWP_seqR)))) (And.intro (And.intro (@AWP_drawR) (And.intro (@AWP_anyR) (@AWP_sxR))) (And.intro (And.intro (@mark_seq) (@mark_cond)) (And.intro (@mark_block) (@mark_loop)))))
  (And.intro (And.intro (And.intro (@mark_draw) (And.intro (@mark_seqR) (@mark_skip))) (And.intro (@mark_exit) (And.intro (@mark_ret) (@evalT_done)))) (And.intro (And.intro
  (@evalT_stop) (And.intro (@evalT_alt) (@AWP_loop))) (And.intro (And.intro (@AWP_cond) (@thenQ_normal)) (And.intro (@thenQ_exit) (@thenQ_ret)))))) (And.intro (And.intro (And.intro
  (And.intro (@blockQ_exit_same) (And.intro (@blockQ_exit_ne) (@blockQ_normal))) (And.intro (@blockQ_ret) (And.intro (@seqOps_nil) (@seqOps_none)))) (And.intro (And.intro
  (@seqOps_some) (And.intro (@flowOps_nil) (@flowOps_none))) (And.intro (And.intro (@flowOps_some) (@flowC_nil)) (And.intro (@flowC_none) (@flowC_some))))) (And.intro (And.intro
  (And.intro (@flowM_nil) (And.intro (@flowM_none) (@flowM_some))) (And.intro (And.intro (@aop.eq_def) (@fop.eq_def)) (And.intro (@callOp.eq_def) (@intBin2.eq_def)))) (And.intro
  (And.intro (@intBin.eq_def) (And.intro (@strBin.eq_def) (@boolBin.eq_def))) (And.intro (And.intro (@aggBin.eq_def) (@drawOps.eq_def)) (And.intro (@retP_ret) (@retP_normal)))))))
  := And.intro (And.intro (And.intro (And.intro (And.intro (@AWP_skip) (And.intro (@AWP_seq) (@AWP_block))) (And.intro (@AWP_exit) (And.intro (@AWP_ret) (@AWP_seqR)))) (And.intro
  (And.intro (@AWP_drawR) (And.intro (@AWP_anyR) (@AWP_sxR))) (And.intro (And.intro (@mark_seq) (@mark_cond)) (And.intro (@mark_block) (@mark_loop))))) (And.intro (And.intro
  (And.intro (@mark_draw) (And.intro (@mark_seqR) (@mark_skip))) (And.intro (@mark_exit) (And.intro (@mark_ret) (@evalT_done)))) (And.intro (And.intro (@evalT_stop) (And.intro
  (@evalT_alt) (@AWP_loop))) (And.intro (And.intro (@AWP_cond) (@thenQ_normal)) (And.intro (@thenQ_exit) (@thenQ_ret)))))) (And.intro (And.intro (And.intro (And.intro
  (@blockQ_exit_same) (And.intro (@blockQ_exit_ne) (@blockQ_normal))) (And.intro (@blockQ_ret) (And.intro (@seqOps_nil) (@seqOps_none)))) (And.intro (And.intro (@seqOps_some)
  (And.intro (@flowOps_nil) (@flowOps_none))) (And.intro (And.intro (@flowOps_some) (@flowC_nil)) (And.intro (@flowC_none) (@flowC_some))))) (And.intro (And.intro (And.intro
  (@flowM_nil) (And.intro (@flowM_none) (@flowM_some))) (And.intro (And.intro (@aop.eq_def) (@fop.eq_def)) (And.intro (@callOp.eq_def) (@intBin2.eq_def)))) (And.intro (And.intro
  (@intBin.eq_def) (And.intro (@strBin.eq_def) (@boolBin.eq_def))) (And.intro (And.intro (@aggBin.eq_def) (@drawOps.eq_def)) (And.intro (@retP_ret) (@retP_normal))))))
theorem amPost0:type_of% (And.intro (And.intro (And.intro (And.intro (And.intro (And.intro (And.intro (@ifP_true) (And.intro (@ifP_false) (@optP_some))) (And.intro (@eqV_int)
  (And.intro (@eqV_bool) (@eqV_str)))) (And.intro (And.intro (@and2_some) (And.intro (@eqCs_nil) (@eqCs_cons))) (And.intro (@nilQ_nil) (And.intro (@nilQ_ptr) (@nilQ_iface)))))
  (And.intro (And.intro (And.intro (@nilQ_func) (And.intro (@nilQ_ref) (@nilQ_sl))) (And.intro (@nilQ_loc) (And.intro (@nilQ_ep) (@nilQ_fn)))) (And.intro (And.intro (@nilQ_ifc)
  (And.intro (@binP_agg) (@binP_int))) (And.intro (@binP_str) (And.intro (@binP_bool) (@binP_ns)))))) (And.intro (And.intro (And.intro (And.intro (@binP_np) (And.intro (@binP_ni)
  (@binP_nf))) (And.intro (@unP_neg) (And.intro (@unP_not) (@pickP_bool)))) (And.intro (And.intro (@loadCs_agg) (And.intro (@loadCs_one) (@loadE_agg))) (And.intro (@loadE_one)
  (And.intro (@loadN_tr) (@loadN_pt))))) (And.intro (And.intro (And.intro (@loadP_loc) (And.intro (@loadP_ep) (@loadP_bx))) (And.intro (@fieldAP_loc) (And.intro (@fieldAP_ep)
  (@fieldAP_bx)))) (And.intro (And.intro (@indexAP_sl) (And.intro (@indexAP_ref) (@lenP_sl))) (And.intro (@lenP_lst) (And.intro (@lenP_ref) (@lenP_nil))))))) (And.intro (And.intro
  (And.intro (And.intro (And.intro (@lenP_str) (And.intro (@viewN_tr) (@viewL_tr))) (And.intro (@viewL_pt) (And.intro (@resP_t) (@resP_f)))) (And.intro (And.intro (@resQ_go)
  (And.intro (@calleeP_fn) (@sliceP_str))) (And.intro (@sliceP_sl) (And.intro (@sliceP_ref) (@sliceP_nil))))) (And.intro (And.intro (And.intro (@fieldP_agg) (And.intro
  (@strIndexP_str) (@kc_agg))) (And.intro (@kc_v) (And.intro (@kc_sl) (@oc_sl)))) (And.intro (And.intro (@kc_lst) (And.intro (@oc_lst) (@kc_ref))) (And.intro (@oc_ref) (And.intro
  (@kc_loc) (@oc_loc)))))) (And.intro (And.intro (And.intro (And.intro (@kc_mref) (And.intro (@oc_mref) (@kc_ep))) (And.intro (@oc_ep) (And.intro (@kc_bx) (@oc_bx)))) (And.intro
  (And.intro (@kc_fn) (And.intro (@oc_fn) (@kc_ifc))) (And.intro (@oc_ifc) (And.intro (@oc_int) (@oc_bool))))) (And.intro (And.intro (And.intro (@oc_str) (And.intro (@oc_slice)
  (@oc_ptr))) (And.intro (@oc_map) (And.intro (@oc_nilf) (@oc_nili)))) (And.intro (And.intro (@nilP_loc) (And.intro (@nilP_ep) (@nilP_bx))) (And.intro (And.intro (@intP_int)
  (@tupP_tup)) (And.intro (@oneP_one) (@convP_int)))))))) (And.intro (And.intro (And.intro (And.intro (And.intro (And.intro (@convP_ref) (And.intro (@convN_tr) (@convB_go)))
  (And.intro (@isU8_int) (And.intro (@byteV_int) (@minmaxP_int)))) (And.intro (And.intro (@valP_go) (And.intro (@lookQ_some) (@lookQ_none))) (And.intro (@lookN_mt) (And.intro
  (@lookP_mref) (@zeroE_t))))) (And.intro (And.intro (And.intro (@zeroE_f) (And.intro (@St.addB_some) (@St.addB_none))) (And.intro (@fitsN_tr) (And.intro (@fitsN_pt) (@storeF_f))))
  (And.intro (And.intro (@storeF_t) (And.intro (@copyP_ref) (@copyN.eq_def))) (And.intro (@storeP_loc) (And.intro (@storeB_f) (@storeB_t)))))) (And.intro (And.intro (And.intro
  (And.intro (@pullP_go) (And.intro (@pullT_tr) (@St.pull_eq))) (And.intro (@selfA.eq_def) (And.intro (@srcN_tr) (@srcP_ref)))) (And.intro (And.intro (@srcP_sl) (And.intro
  (@srcP_lst) (@srcP_nil))) (And.intro (@appP_nil) (And.intro (@appP_ref) (@resX_go))))) (And.intro (And.intro (And.intro (@pinF_none) (And.intro (@pinF_some) (@callM_nil)))
  (And.intro (@callM_cons) (And.intro (@callA_fn) (@mapN_mt)))) (And.intro (And.intro (@mapP_mref) (And.intro (@boxA_f) (@boxA_t))) (And.intro (And.intro (@boxM_nil) (@boxM_t))
  (And.intro (@boxM_f) (@boxF_go))))))) (And.intro (And.intro (And.intro (And.intro (And.intro (@buildL_go) (And.intro (@buildM_nil) (@buildM_t))) (And.intro (@buildM_f) (And.intro
  (@guardQ_t) (@guardQ_f)))) (And.intro (And.intro (@guardQ_un) (And.intro (@dstOf_zero) (@dstOf_succ))) (And.intro (@St.addN_some) (And.intro (@St.addN_none) (@seqAt_none)))))
  (And.intro (And.intro (And.intro (@seqAt_some) (And.intro (@operAt_zero) (@operAt_succ))) (And.intro (@condQ_bool) (And.intro (@drawP_go) (@seqXP_go)))) (And.intro (And.intro
  (@bxEnd_go) (And.intro (@notTmp_tmp) (@memA_nil))) (And.intro (@memA_cons) (And.intro (@madeP.eq_def) (@floatP.eq_def)))))) (And.intro (And.intro (And.intro (And.intro
  (@floatQ_go) (And.intro (@pivP.eq_def) (@pivQ_go))) (And.intro (@pvP_call) (And.intro (@pvF_fn) (@pvC_loc)))) (And.intro (And.intro (@hide1.eq_def) (And.intro (@resL_nil)
  (@resL_tmp))) (And.intro (@resL_cell) (And.intro (@leR_one) (@leR_nil))))) (And.intro (And.intro (And.intro (@leR_two) (And.intro (@vc_ok) (@vc_true))) (And.intro
  (@AV.lenV.eq_def) (And.intro (@nilBin.eq_def) (@isConstO.eq_def)))) (And.intro (And.intro (@buildCs.eq_1) (And.intro (@buildCs.eq_2) (@Value.oneCell'.eq_def))) (And.intro
  (And.intro (@boxP.eq_def) (@nilC.eq_def)) (And.intro (@cells_any) (@cells_v))))))))):=And.intro (And.intro (And.intro (And.intro (And.intro (And.intro (And.intro (@ifP_true)
  (And.intro (@ifP_false) (@optP_some))) (And.intro (@eqV_int) (And.intro (@eqV_bool) (@eqV_str)))) (And.intro (And.intro (@and2_some) (And.intro (@eqCs_nil) (@eqCs_cons)))
  (And.intro (@nilQ_nil) (And.intro (@nilQ_ptr) (@nilQ_iface))))) (And.intro (And.intro (And.intro (@nilQ_func) (And.intro (@nilQ_ref) (@nilQ_sl))) (And.intro (@nilQ_loc) (And.intro
  (@nilQ_ep) (@nilQ_fn)))) (And.intro (And.intro (@nilQ_ifc) (And.intro (@binP_agg) (@binP_int))) (And.intro (@binP_str) (And.intro (@binP_bool) (@binP_ns)))))) (And.intro
  (And.intro (And.intro (And.intro (@binP_np) (And.intro (@binP_ni) (@binP_nf))) (And.intro (@unP_neg) (And.intro (@unP_not) (@pickP_bool)))) (And.intro (And.intro (@loadCs_agg)
  (And.intro (@loadCs_one) (@loadE_agg))) (And.intro (@loadE_one) (And.intro (@loadN_tr) (@loadN_pt))))) (And.intro (And.intro (And.intro (@loadP_loc) (And.intro (@loadP_ep)
  (@loadP_bx))) (And.intro (@fieldAP_loc) (And.intro (@fieldAP_ep) (@fieldAP_bx)))) (And.intro (And.intro (@indexAP_sl) (And.intro (@indexAP_ref) (@lenP_sl))) (And.intro (@lenP_lst)
  (And.intro (@lenP_ref) (@lenP_nil))))))) (And.intro (And.intro (And.intro (And.intro (And.intro (@lenP_str) (And.intro (@viewN_tr) (@viewL_tr))) (And.intro (@viewL_pt) (And.intro
  (@resP_t) (@resP_f)))) (And.intro (And.intro (@resQ_go) (And.intro (@calleeP_fn) (@sliceP_str))) (And.intro (@sliceP_sl) (And.intro (@sliceP_ref) (@sliceP_nil))))) (And.intro
  (And.intro (And.intro (@fieldP_agg) (And.intro (@strIndexP_str) (@kc_agg))) (And.intro (@kc_v) (And.intro (@kc_sl) (@oc_sl)))) (And.intro (And.intro (@kc_lst) (And.intro (@oc_lst)
  (@kc_ref))) (And.intro (@oc_ref) (And.intro (@kc_loc) (@oc_loc)))))) (And.intro (And.intro (And.intro (And.intro (@kc_mref) (And.intro (@oc_mref) (@kc_ep))) (And.intro (@oc_ep)
  (And.intro (@kc_bx) (@oc_bx)))) (And.intro (And.intro (@kc_fn) (And.intro (@oc_fn) (@kc_ifc))) (And.intro (@oc_ifc) (And.intro (@oc_int) (@oc_bool))))) (And.intro (And.intro
  (And.intro (@oc_str) (And.intro (@oc_slice) (@oc_ptr))) (And.intro (@oc_map) (And.intro (@oc_nilf) (@oc_nili)))) (And.intro (And.intro (@nilP_loc) (And.intro (@nilP_ep)
  (@nilP_bx))) (And.intro (And.intro (@intP_int) (@tupP_tup)) (And.intro (@oneP_one) (@convP_int)))))))) (And.intro (And.intro (And.intro (And.intro (And.intro (And.intro
  (@convP_ref) (And.intro (@convN_tr) (@convB_go))) (And.intro (@isU8_int) (And.intro (@byteV_int) (@minmaxP_int)))) (And.intro (And.intro (@valP_go) (And.intro (@lookQ_some)
  (@lookQ_none))) (And.intro (@lookN_mt) (And.intro (@lookP_mref) (@zeroE_t))))) (And.intro (And.intro (And.intro (@zeroE_f) (And.intro (@St.addB_some) (@St.addB_none))) (And.intro
  (@fitsN_tr) (And.intro (@fitsN_pt) (@storeF_f)))) (And.intro (And.intro (@storeF_t) (And.intro (@copyP_ref) (@copyN.eq_def))) (And.intro (@storeP_loc) (And.intro (@storeB_f)
  (@storeB_t)))))) (And.intro (And.intro (And.intro (And.intro (@pullP_go) (And.intro (@pullT_tr) (@St.pull_eq))) (And.intro (@selfA.eq_def) (And.intro (@srcN_tr) (@srcP_ref))))
  (And.intro (And.intro (@srcP_sl) (And.intro (@srcP_lst) (@srcP_nil))) (And.intro (@appP_nil) (And.intro (@appP_ref) (@resX_go))))) (And.intro (And.intro (And.intro (@pinF_none)
  (And.intro (@pinF_some) (@callM_nil))) (And.intro (@callM_cons) (And.intro (@callA_fn) (@mapN_mt)))) (And.intro (And.intro (@mapP_mref) (And.intro (@boxA_f) (@boxA_t))) (And.intro
  (And.intro (@boxM_nil) (@boxM_t)) (And.intro (@boxM_f) (@boxF_go))))))) (And.intro (And.intro (And.intro (And.intro (And.intro (@buildL_go) (And.intro (@buildM_nil) (@buildM_t)))
  (And.intro (@buildM_f) (And.intro (@guardQ_t) (@guardQ_f)))) (And.intro (And.intro (@guardQ_un) (And.intro (@dstOf_zero) (@dstOf_succ))) (And.intro (@St.addN_some) (And.intro
  (@St.addN_none) (@seqAt_none))))) (And.intro (And.intro (And.intro (@seqAt_some) (And.intro (@operAt_zero) (@operAt_succ))) (And.intro (@condQ_bool) (And.intro (@drawP_go)
  (@seqXP_go)))) (And.intro (And.intro (@bxEnd_go) (And.intro (@notTmp_tmp) (@memA_nil))) (And.intro (@memA_cons) (And.intro (@madeP.eq_def) (@floatP.eq_def)))))) (And.intro
  (And.intro (And.intro (And.intro (@floatQ_go) (And.intro (@pivP.eq_def) (@pivQ_go))) (And.intro (@pvP_call) (And.intro (@pvF_fn) (@pvC_loc)))) (And.intro (And.intro
  (@hide1.eq_def) (And.intro (@resL_nil) (@resL_tmp))) (And.intro (@resL_cell) (And.intro (@leR_one) (@leR_nil))))) (And.intro (And.intro (And.intro (@leR_two) (And.intro (@vc_ok)
  (@vc_true))) (And.intro (@AV.lenV.eq_def) (And.intro (@nilBin.eq_def) (@isConstO.eq_def)))) (And.intro (And.intro (@buildCs.eq_1) (And.intro (@buildCs.eq_2)
  (@Value.oneCell'.eq_def))) (And.intro (And.intro (@boxP.eq_def) (@nilC.eq_def)) (And.intro (@cells_any) (@cells_v))))))))
theorem amPost1:type_of% (And.intro (And.intro (And.intro (And.intro (And.intro (And.intro (And.intro (@cells_sl) (And.intro (@cells_agg) (@cells_tup))) (And.intro (@cells_ep)
  (And.intro (@cells_fn) (@cells_tr)))) (And.intro (And.intro (@cells_pt) (And.intro (@cells_mt) (@cells_ref))) (And.intro (@cells_loc) (And.intro (@cells_mref) (@cells_lst)))))
  (And.intro (And.intro (And.intro (@cells_bx) (And.intro (@cells_ifc) (@isNode_any))) (And.intro (@isNode_v) (And.intro (@isNode_sl) (@isNode_agg)))) (And.intro (And.intro
  (@isNode_tup) (And.intro (@isNode_ep) (@isNode_fn))) (And.intro (@isNode_tr) (And.intro (@isNode_pt) (@isNode_mt)))))) (And.intro (And.intro (And.intro (And.intro (@isNode_ref)
  (And.intro (@isNode_loc) (@isNode_mref))) (And.intro (@isNode_lst) (And.intro (@isNode_bx) (@isNode_ifc)))) (And.intro (And.intro (@cellAt_tr) (And.intro (@cellAt_pt)
  (@cellAt_agg))) (And.intro (@cellAt_tup) (And.intro (@cellAt_any) (@cellAt_v))))) (And.intro (And.intro (And.intro (@cellAt_sl) (And.intro (@cellAt_ep) (@cellAt_fn))) (And.intro
  (@cellAt_mt) (And.intro (@cellAt_ref) (@cellAt_loc)))) (And.intro (And.intro (@cellAt_mref) (And.intro (@cellAt_lst) (@cellAt_bx))) (And.intro (@cellAt_ifc) (And.intro (@at_nil)
  (@at_cons))))))) (And.intro (And.intro (And.intro (And.intro (And.intro (@setC_any) (And.intro (@setC_v) (@setC_sl))) (And.intro (@setC_agg) (And.intro (@setC_tup) (@setC_ep))))
  (And.intro (And.intro (@setC_fn) (And.intro (@setC_tr) (@setC_pt))) (And.intro (@setC_mt) (And.intro (@setC_ref) (@setC_loc))))) (And.intro (And.intro (And.intro (@setC_mref)
  (And.intro (@setC_lst) (@setC_bx))) (And.intro (@setC_ifc) (And.intro (@setAt_tr) (@setAt_pt)))) (And.intro (And.intro (@setAt_agg) (And.intro (@setAt_tup) (@setP_nil)))
  (And.intro (@setP_cons) (And.intro (@modP_nil) (@modP_cons)))))) (And.intro (And.intro (And.intro (And.intro (@nodeAt_def) (And.intro (@fz_any) (@fz_v))) (And.intro (@fz_sl)
  (And.intro (@fz_agg) (@fz_tup)))) (And.intro (And.intro (@fz_ep) (And.intro (@fz_fn) (@fz_tr))) (And.intro (@fz_pt) (And.intro (@fz_mt) (@fz_ref))))) (And.intro (And.intro
  (And.intro (@fz_loc) (And.intro (@fz_mref) (@fz_lst))) (And.intro (@fz_bx) (And.intro (@fz_ifc) (@fzL_nil)))) (And.intro (And.intro (@fzL_cons) (And.intro (@pure_any) (@pure_v)))
  (And.intro (And.intro (@pure_sl) (@pure_agg)) (And.intro (@pure_tup) (@pure_ep)))))))) (And.intro (And.intro (And.intro (And.intro (And.intro (And.intro (@pure_fn) (And.intro
  (@pure_tr) (@pure_pt))) (And.intro (@pure_mt) (And.intro (@pure_ref) (@pure_loc)))) (And.intro (And.intro (@pure_mref) (And.intro (@pure_lst) (@pure_bx))) (And.intro (@pure_ifc)
  (And.intro (@pureL_nil) (@pureL_cons))))) (And.intro (And.intro (And.intro (@atom_any) (And.intro (@atom_v) (@atom_sl))) (And.intro (@atom_agg) (And.intro (@atom_tup)
  (@atom_ep)))) (And.intro (And.intro (@atom_fn) (And.intro (@atom_tr) (@atom_pt))) (And.intro (@atom_mt) (And.intro (@atom_ref) (@atom_loc)))))) (And.intro (And.intro (And.intro
  (And.intro (@atom_mref) (And.intro (@atom_lst) (@atom_bx))) (And.intro (@atom_ifc) (And.intro (@atomL_nil) (@atomL_cons)))) (And.intro (And.intro (@atom1_any) (And.intro
  (@atom1_v) (@atom1_sl))) (And.intro (@atom1_agg) (And.intro (@atom1_tup) (@atom1_ep))))) (And.intro (And.intro (And.intro (@atom1_fn) (And.intro (@atom1_tr) (@atom1_pt)))
  (And.intro (@atom1_mt) (And.intro (@atom1_ref) (@atom1_loc)))) (And.intro (And.intro (@atom1_mref) (And.intro (@atom1_lst) (@atom1_bx))) (And.intro (And.intro (@atom1_ifc)
  (@atomT_nil)) (And.intro (@atomT_cons) (@atoms_any))))))) (And.intro (And.intro (And.intro (And.intro (And.intro (@atoms_v) (And.intro (@atoms_sl) (@atoms_agg))) (And.intro
  (@atoms_tup) (And.intro (@atoms_ep) (@atoms_fn)))) (And.intro (And.intro (@atoms_tr) (And.intro (@atoms_pt) (@atoms_mt))) (And.intro (@atoms_ref) (And.intro (@atoms_loc)
  (@atoms_mref))))) (And.intro (And.intro (And.intro (@atoms_lst) (And.intro (@atoms_bx) (@atoms_ifc))) (And.intro (@sig1_any) (And.intro (@sig1_v) (@sig1_sl)))) (And.intro
  (And.intro (@sig1_agg) (And.intro (@sig1_tup) (@sig1_ep))) (And.intro (@sig1_fn) (And.intro (@sig1_tr) (@sig1_pt)))))) (And.intro (And.intro (And.intro (And.intro (@sig1_mt)
  (And.intro (@sig1_ref) (@sig1_loc))) (And.intro (@sig1_mref) (And.intro (@sig1_lst) (@sig1_bx)))) (And.intro (And.intro (@sig1_ifc) (And.intro (@sig_any) (@sig_v))) (And.intro
  (@sig_sl) (And.intro (@sig_agg) (@sig_tup))))) (And.intro (And.intro (And.intro (@sig_ep) (And.intro (@sig_fn) (@sig_tr))) (And.intro (@sig_pt) (And.intro (@sig_mt) (@sig_ref))))
  (And.intro (And.intro (@sig_loc) (And.intro (@sig_mref) (@sig_lst))) (And.intro (And.intro (@sig_bx) (@sig_ifc)) (And.intro (@bears_any) (@bears_v))))))))):=And.intro (And.intro
  (And.intro (And.intro (And.intro (And.intro (And.intro (@cells_sl) (And.intro (@cells_agg) (@cells_tup))) (And.intro (@cells_ep) (And.intro (@cells_fn) (@cells_tr)))) (And.intro
  (And.intro (@cells_pt) (And.intro (@cells_mt) (@cells_ref))) (And.intro (@cells_loc) (And.intro (@cells_mref) (@cells_lst))))) (And.intro (And.intro (And.intro (@cells_bx)
  (And.intro (@cells_ifc) (@isNode_any))) (And.intro (@isNode_v) (And.intro (@isNode_sl) (@isNode_agg)))) (And.intro (And.intro (@isNode_tup) (And.intro (@isNode_ep) (@isNode_fn)))
  (And.intro (@isNode_tr) (And.intro (@isNode_pt) (@isNode_mt)))))) (And.intro (And.intro (And.intro (And.intro (@isNode_ref) (And.intro (@isNode_loc) (@isNode_mref))) (And.intro
  (@isNode_lst) (And.intro (@isNode_bx) (@isNode_ifc)))) (And.intro (And.intro (@cellAt_tr) (And.intro (@cellAt_pt) (@cellAt_agg))) (And.intro (@cellAt_tup) (And.intro (@cellAt_any)
  (@cellAt_v))))) (And.intro (And.intro (And.intro (@cellAt_sl) (And.intro (@cellAt_ep) (@cellAt_fn))) (And.intro (@cellAt_mt) (And.intro (@cellAt_ref) (@cellAt_loc)))) (And.intro
  (And.intro (@cellAt_mref) (And.intro (@cellAt_lst) (@cellAt_bx))) (And.intro (@cellAt_ifc) (And.intro (@at_nil) (@at_cons))))))) (And.intro (And.intro (And.intro (And.intro
  (And.intro (@setC_any) (And.intro (@setC_v) (@setC_sl))) (And.intro (@setC_agg) (And.intro (@setC_tup) (@setC_ep)))) (And.intro (And.intro (@setC_fn) (And.intro (@setC_tr)
  (@setC_pt))) (And.intro (@setC_mt) (And.intro (@setC_ref) (@setC_loc))))) (And.intro (And.intro (And.intro (@setC_mref) (And.intro (@setC_lst) (@setC_bx))) (And.intro (@setC_ifc)
  (And.intro (@setAt_tr) (@setAt_pt)))) (And.intro (And.intro (@setAt_agg) (And.intro (@setAt_tup) (@setP_nil))) (And.intro (@setP_cons) (And.intro (@modP_nil) (@modP_cons))))))
  (And.intro (And.intro (And.intro (And.intro (@nodeAt_def) (And.intro (@fz_any) (@fz_v))) (And.intro (@fz_sl) (And.intro (@fz_agg) (@fz_tup)))) (And.intro (And.intro (@fz_ep)
  (And.intro (@fz_fn) (@fz_tr))) (And.intro (@fz_pt) (And.intro (@fz_mt) (@fz_ref))))) (And.intro (And.intro (And.intro (@fz_loc) (And.intro (@fz_mref) (@fz_lst))) (And.intro
  (@fz_bx) (And.intro (@fz_ifc) (@fzL_nil)))) (And.intro (And.intro (@fzL_cons) (And.intro (@pure_any) (@pure_v))) (And.intro (And.intro (@pure_sl) (@pure_agg)) (And.intro
  (@pure_tup) (@pure_ep)))))))) (And.intro (And.intro (And.intro (And.intro (And.intro (And.intro (@pure_fn) (And.intro (@pure_tr) (@pure_pt))) (And.intro (@pure_mt) (And.intro
  (@pure_ref) (@pure_loc)))) (And.intro (And.intro (@pure_mref) (And.intro (@pure_lst) (@pure_bx))) (And.intro (@pure_ifc) (And.intro (@pureL_nil) (@pureL_cons))))) (And.intro
  (And.intro (And.intro (@atom_any) (And.intro (@atom_v) (@atom_sl))) (And.intro (@atom_agg) (And.intro (@atom_tup) (@atom_ep)))) (And.intro (And.intro (@atom_fn) (And.intro
  (@atom_tr) (@atom_pt))) (And.intro (@atom_mt) (And.intro (@atom_ref) (@atom_loc)))))) (And.intro (And.intro (And.intro (And.intro (@atom_mref) (And.intro (@atom_lst) (@atom_bx)))
  (And.intro (@atom_ifc) (And.intro (@atomL_nil) (@atomL_cons)))) (And.intro (And.intro (@atom1_any) (And.intro (@atom1_v) (@atom1_sl))) (And.intro (@atom1_agg) (And.intro
  (@atom1_tup) (@atom1_ep))))) (And.intro (And.intro (And.intro (@atom1_fn) (And.intro (@atom1_tr) (@atom1_pt))) (And.intro (@atom1_mt) (And.intro (@atom1_ref) (@atom1_loc))))
  (And.intro (And.intro (@atom1_mref) (And.intro (@atom1_lst) (@atom1_bx))) (And.intro (And.intro (@atom1_ifc) (@atomT_nil)) (And.intro (@atomT_cons) (@atoms_any))))))) (And.intro
  (And.intro (And.intro (And.intro (And.intro (@atoms_v) (And.intro (@atoms_sl) (@atoms_agg))) (And.intro (@atoms_tup) (And.intro (@atoms_ep) (@atoms_fn)))) (And.intro (And.intro
  (@atoms_tr) (And.intro (@atoms_pt) (@atoms_mt))) (And.intro (@atoms_ref) (And.intro (@atoms_loc) (@atoms_mref))))) (And.intro (And.intro (And.intro (@atoms_lst) (And.intro
  (@atoms_bx) (@atoms_ifc))) (And.intro (@sig1_any) (And.intro (@sig1_v) (@sig1_sl)))) (And.intro (And.intro (@sig1_agg) (And.intro (@sig1_tup) (@sig1_ep))) (And.intro (@sig1_fn)
  (And.intro (@sig1_tr) (@sig1_pt)))))) (And.intro (And.intro (And.intro (And.intro (@sig1_mt) (And.intro (@sig1_ref) (@sig1_loc))) (And.intro (@sig1_mref) (And.intro (@sig1_lst)
  (@sig1_bx)))) (And.intro (And.intro (@sig1_ifc) (And.intro (@sig_any) (@sig_v))) (And.intro (@sig_sl) (And.intro (@sig_agg) (@sig_tup))))) (And.intro (And.intro (And.intro
  (@sig_ep) (And.intro (@sig_fn) (@sig_tr))) (And.intro (@sig_pt) (And.intro (@sig_mt) (@sig_ref)))) (And.intro (And.intro (@sig_loc) (And.intro (@sig_mref) (@sig_lst))) (And.intro
  (And.intro (@sig_bx) (@sig_ifc)) (And.intro (@bears_any) (@bears_v))))))))
theorem amPost2:type_of% (And.intro (And.intro (And.intro (And.intro (And.intro (And.intro (And.intro (@bears_sl) (And.intro (@bears_agg) (@bears_tup))) (And.intro (@bears_ep)
  (And.intro (@bears_fn) (@bears_tr)))) (And.intro (And.intro (@bears_pt) (And.intro (@bears_mt) (@bears_ref))) (And.intro (@bears_loc) (And.intro (@bears_mref) (@bears_lst)))))
  (And.intro (And.intro (And.intro (@bears_bx) (And.intro (@bears_ifc) (@bearsL_nil))) (And.intro (@bearsL_cons) (And.intro (@node1_any) (@node1_v)))) (And.intro (And.intro
  (@node1_sl) (And.intro (@node1_agg) (@node1_tup))) (And.intro (@node1_ep) (And.intro (@node1_fn) (@node1_tr)))))) (And.intro (And.intro (And.intro (And.intro (@node1_pt)
  (And.intro (@node1_mt) (@node1_ref))) (And.intro (@node1_loc) (And.intro (@node1_mref) (@node1_lst)))) (And.intro (And.intro (@node1_bx) (And.intro (@node1_ifc) (@nodeB_any)))
  (And.intro (@nodeB_v) (And.intro (@nodeB_sl) (@nodeB_agg))))) (And.intro (And.intro (And.intro (@nodeB_tup) (And.intro (@nodeB_ep) (@nodeB_fn))) (And.intro (@nodeB_tr) (And.intro
  (@nodeB_pt) (@nodeB_mt)))) (And.intro (And.intro (@nodeB_ref) (And.intro (@nodeB_loc) (@nodeB_mref))) (And.intro (@nodeB_lst) (And.intro (@nodeB_bx) (@nodeB_ifc))))))) (And.intro
  (And.intro (And.intro (And.intro (And.intro (@view_any) (And.intro (@view_v) (@view_sl))) (And.intro (@view_agg) (And.intro (@view_tup) (@view_ep)))) (And.intro (And.intro
  (@view_fn) (And.intro (@view_tr) (@view_pt))) (And.intro (@view_mt) (And.intro (@view_ref) (@view_loc))))) (And.intro (And.intro (And.intro (@view_mref) (And.intro (@view_lst)
  (@view_bx))) (And.intro (@view_ifc) (And.intro (@views_nil) (@views_cons)))) (And.intro (And.intro (@hRef) (And.intro (@hLoc) (@hMref))) (And.intro (@mapH_any) (And.intro
  (@mapH_v) (@mapH_sl)))))) (And.intro (And.intro (And.intro (And.intro (@mapH_agg) (And.intro (@mapH_tup) (@mapH_ep))) (And.intro (@mapH_fn) (And.intro (@mapH_tr) (@mapH_pt))))
  (And.intro (And.intro (@mapH_mt) (And.intro (@mapH_lst) (@mapH_bx))) (And.intro (@mapH_ifc) (And.intro (@mapHL_nil) (@mapHL_cons))))) (And.intro (And.intro (And.intro
  (@killF.eq_def) (And.intro (@belowF.eq_def) (@belowK.eq_def))) (And.intro (@fromF.eq_def) (And.intro (@moveF.eq_def) (@growF.eq_def)))) (And.intro (And.intro (@isPref_nil)
  (And.intro (@isPref_cons) (@isPref_cn))) (And.intro (And.intro (@ev_tmp) (@ev_const)) (And.intro (@ev_func) (@ev_global)))))))) (And.intro (And.intro (And.intro (And.intro
  (And.intro (And.intro (@frO_some) (And.intro (@put_fr) (@put_memo))) (And.intro (@put_none) (And.intro (@mapF_fr) (@mapF_mem)))) (And.intro (And.intro (@setMem_fr) (And.intro
  (@setMem_memo) (@del_fr))) (And.intro (@del_mem) (And.intro (@kill_fr) (@kill_memo))))) (And.intro (And.intro (And.intro (@rmv_nil) (And.intro (@rmv_cons) (@mv_def))) (And.intro
  (@grow_def) (And.intro (@init_fr) (@init_mem)))) (And.intro (And.intro (@grabTr.eq_def) (And.intro (@grabPt.eq_def) (@grabMt.eq_def))) (And.intro (@grabC_ref) (And.intro
  (@grabC_loc) (@grabC_mref)))))) (And.intro (And.intro (And.intro (And.intro (@grabC_any) (And.intro (@grabC_v) (@grabC_sl))) (And.intro (@grabC_agg) (And.intro (@grabC_tup)
  (@grabC_ep)))) (And.intro (And.intro (@grabC_fn) (And.intro (@grabC_tr) (@grabC_pt))) (And.intro (@grabC_mt) (And.intro (@grabC_lst) (@grabC_bx))))) (And.intro (And.intro
  (And.intro (@grabC_ifc) (And.intro (@grabCs_nil) (@grabCs_cons))) (And.intro (@grabE_any) (And.intro (@grabE_v) (@grabE_sl)))) (And.intro (And.intro (@grabE_agg) (And.intro
  (@grabE_tup) (@grabE_ep))) (And.intro (And.intro (@grabE_fn) (@grabE_tr)) (And.intro (@grabE_pt) (@grabE_mt))))))) (And.intro (And.intro (And.intro (And.intro (And.intro
  (@grabE_ref) (And.intro (@grabE_loc) (@grabE_mref))) (And.intro (@grabE_lst) (And.intro (@grabE_bx) (@grabE_ifc)))) (And.intro (And.intro (@grabL_nil) (And.intro (@grabL_cons)
  (@setCs_nil))) (And.intro (@setCs_cons) (And.intro (@setE_tr) (@setE_pt))))) (And.intro (And.intro (And.intro (@setEl.eq_def) (And.intro (@appE.eq_def) (@appN.eq_def))) (And.intro
  (@takeTr.eq_def) (And.intro (@takePt.eq_def) (@takeMt.eq_def)))) (And.intro (And.intro (@closeTr.eq_def) (And.intro (@closePt.eq_def) (@closeMt.eq_def))) (And.intro
  (@hideM.eq_def) (And.intro (@giveC.eq_def) (@giveN.eq_def)))))) (And.intro (And.intro (And.intro (And.intro (@giveO.eq_def) (And.intro (@takeC_ref) (@takeC_loc))) (And.intro
  (@takeC_mref) (And.intro (@takeC_any) (@takeC_v)))) (And.intro (And.intro (@takeC_sl) (And.intro (@takeC_agg) (@takeC_tup))) (And.intro (@takeC_ep) (And.intro (@takeC_fn)
  (@takeC_tr))))) (And.intro (And.intro (And.intro (@takeC_pt) (And.intro (@takeC_mt) (@takeC_lst))) (And.intro (@takeC_bx) (And.intro (@takeC_ifc) (@takeA_any)))) (And.intro
  (And.intro (@takeA_v) (And.intro (@takeA_sl) (@takeA_agg))) (And.intro (And.intro (@takeA_tup) (@takeA_ep)) (And.intro (@takeA_fn) (@takeA_tr))))))))):=And.intro (And.intro
  (And.intro (And.intro (And.intro (And.intro (And.intro (@bears_sl) (And.intro (@bears_agg) (@bears_tup))) (And.intro (@bears_ep) (And.intro (@bears_fn) (@bears_tr)))) (And.intro
  (And.intro (@bears_pt) (And.intro (@bears_mt) (@bears_ref))) (And.intro (@bears_loc) (And.intro (@bears_mref) (@bears_lst))))) (And.intro (And.intro (And.intro (@bears_bx)
  (And.intro (@bears_ifc) (@bearsL_nil))) (And.intro (@bearsL_cons) (And.intro (@node1_any) (@node1_v)))) (And.intro (And.intro (@node1_sl) (And.intro (@node1_agg) (@node1_tup)))
  (And.intro (@node1_ep) (And.intro (@node1_fn) (@node1_tr)))))) (And.intro (And.intro (And.intro (And.intro (@node1_pt) (And.intro (@node1_mt) (@node1_ref))) (And.intro
  (@node1_loc) (And.intro (@node1_mref) (@node1_lst)))) (And.intro (And.intro (@node1_bx) (And.intro (@node1_ifc) (@nodeB_any))) (And.intro (@nodeB_v) (And.intro (@nodeB_sl)
  (@nodeB_agg))))) (And.intro (And.intro (And.intro (@nodeB_tup) (And.intro (@nodeB_ep) (@nodeB_fn))) (And.intro (@nodeB_tr) (And.intro (@nodeB_pt) (@nodeB_mt)))) (And.intro
  (And.intro (@nodeB_ref) (And.intro (@nodeB_loc) (@nodeB_mref))) (And.intro (@nodeB_lst) (And.intro (@nodeB_bx) (@nodeB_ifc))))))) (And.intro (And.intro (And.intro (And.intro
  (And.intro (@view_any) (And.intro (@view_v) (@view_sl))) (And.intro (@view_agg) (And.intro (@view_tup) (@view_ep)))) (And.intro (And.intro (@view_fn) (And.intro (@view_tr)
  (@view_pt))) (And.intro (@view_mt) (And.intro (@view_ref) (@view_loc))))) (And.intro (And.intro (And.intro (@view_mref) (And.intro (@view_lst) (@view_bx))) (And.intro (@view_ifc)
  (And.intro (@views_nil) (@views_cons)))) (And.intro (And.intro (@hRef) (And.intro (@hLoc) (@hMref))) (And.intro (@mapH_any) (And.intro (@mapH_v) (@mapH_sl)))))) (And.intro
  (And.intro (And.intro (And.intro (@mapH_agg) (And.intro (@mapH_tup) (@mapH_ep))) (And.intro (@mapH_fn) (And.intro (@mapH_tr) (@mapH_pt)))) (And.intro (And.intro (@mapH_mt)
  (And.intro (@mapH_lst) (@mapH_bx))) (And.intro (@mapH_ifc) (And.intro (@mapHL_nil) (@mapHL_cons))))) (And.intro (And.intro (And.intro (@killF.eq_def) (And.intro (@belowF.eq_def)
  (@belowK.eq_def))) (And.intro (@fromF.eq_def) (And.intro (@moveF.eq_def) (@growF.eq_def)))) (And.intro (And.intro (@isPref_nil) (And.intro (@isPref_cons) (@isPref_cn))) (And.intro
  (And.intro (@ev_tmp) (@ev_const)) (And.intro (@ev_func) (@ev_global)))))))) (And.intro (And.intro (And.intro (And.intro (And.intro (And.intro (@frO_some) (And.intro (@put_fr)
  (@put_memo))) (And.intro (@put_none) (And.intro (@mapF_fr) (@mapF_mem)))) (And.intro (And.intro (@setMem_fr) (And.intro (@setMem_memo) (@del_fr))) (And.intro (@del_mem) (And.intro
  (@kill_fr) (@kill_memo))))) (And.intro (And.intro (And.intro (@rmv_nil) (And.intro (@rmv_cons) (@mv_def))) (And.intro (@grow_def) (And.intro (@init_fr) (@init_mem)))) (And.intro
  (And.intro (@grabTr.eq_def) (And.intro (@grabPt.eq_def) (@grabMt.eq_def))) (And.intro (@grabC_ref) (And.intro (@grabC_loc) (@grabC_mref)))))) (And.intro (And.intro (And.intro
  (And.intro (@grabC_any) (And.intro (@grabC_v) (@grabC_sl))) (And.intro (@grabC_agg) (And.intro (@grabC_tup) (@grabC_ep)))) (And.intro (And.intro (@grabC_fn) (And.intro (@grabC_tr)
  (@grabC_pt))) (And.intro (@grabC_mt) (And.intro (@grabC_lst) (@grabC_bx))))) (And.intro (And.intro (And.intro (@grabC_ifc) (And.intro (@grabCs_nil) (@grabCs_cons))) (And.intro
  (@grabE_any) (And.intro (@grabE_v) (@grabE_sl)))) (And.intro (And.intro (@grabE_agg) (And.intro (@grabE_tup) (@grabE_ep))) (And.intro (And.intro (@grabE_fn) (@grabE_tr))
  (And.intro (@grabE_pt) (@grabE_mt))))))) (And.intro (And.intro (And.intro (And.intro (And.intro (@grabE_ref) (And.intro (@grabE_loc) (@grabE_mref))) (And.intro (@grabE_lst)
  (And.intro (@grabE_bx) (@grabE_ifc)))) (And.intro (And.intro (@grabL_nil) (And.intro (@grabL_cons) (@setCs_nil))) (And.intro (@setCs_cons) (And.intro (@setE_tr) (@setE_pt)))))
  (And.intro (And.intro (And.intro (@setEl.eq_def) (And.intro (@appE.eq_def) (@appN.eq_def))) (And.intro (@takeTr.eq_def) (And.intro (@takePt.eq_def) (@takeMt.eq_def)))) (And.intro
  (And.intro (@closeTr.eq_def) (And.intro (@closePt.eq_def) (@closeMt.eq_def))) (And.intro (@hideM.eq_def) (And.intro (@giveC.eq_def) (@giveN.eq_def)))))) (And.intro (And.intro
  (And.intro (And.intro (@giveO.eq_def) (And.intro (@takeC_ref) (@takeC_loc))) (And.intro (@takeC_mref) (And.intro (@takeC_any) (@takeC_v)))) (And.intro (And.intro (@takeC_sl)
  (And.intro (@takeC_agg) (@takeC_tup))) (And.intro (@takeC_ep) (And.intro (@takeC_fn) (@takeC_tr))))) (And.intro (And.intro (And.intro (@takeC_pt) (And.intro (@takeC_mt)
  (@takeC_lst))) (And.intro (@takeC_bx) (And.intro (@takeC_ifc) (@takeA_any)))) (And.intro (And.intro (@takeA_v) (And.intro (@takeA_sl) (@takeA_agg))) (And.intro (And.intro
  (@takeA_tup) (@takeA_ep)) (And.intro (@takeA_fn) (@takeA_tr))))))))
theorem amPost3:type_of% (And.intro (And.intro (And.intro (And.intro (And.intro (And.intro (And.intro (@takeA_pt) (And.intro (@takeA_mt) (@takeA_ref))) (And.intro (@takeA_loc)
  (And.intro (@takeA_mref) (@takeA_lst)))) (And.intro (And.intro (@takeA_bx) (And.intro (@takeA_ifc) (@closeC_ref))) (And.intro (@closeC_loc) (And.intro (@closeC_mref)
  (@closeC_any))))) (And.intro (And.intro (And.intro (@closeC_v) (And.intro (@closeC_sl) (@closeC_agg))) (And.intro (@closeC_tup) (And.intro (@closeC_ep) (@closeC_fn)))) (And.intro
  (And.intro (@closeC_tr) (And.intro (@closeC_pt) (@closeC_mt))) (And.intro (@closeC_lst) (And.intro (@closeC_bx) (@closeC_ifc)))))) (And.intro (And.intro (And.intro (And.intro
  (@closeA_any) (And.intro (@closeA_v) (@closeA_sl))) (And.intro (@closeA_agg) (And.intro (@closeA_tup) (@closeA_ep)))) (And.intro (And.intro (@closeA_fn) (And.intro (@closeA_tr)
  (@closeA_pt))) (And.intro (@closeA_mt) (And.intro (@closeA_ref) (@closeA_loc))))) (And.intro (And.intro (And.intro (@closeA_mref) (And.intro (@closeA_lst) (@closeA_bx)))
  (And.intro (@closeA_ifc) (And.intro (@isTail.eq_def) (@makesB.eq_def)))) (And.intro (And.intro (@srcN.eq_def) (And.intro (@argsOf_nil) (@argsOf_some))) (And.intro (@argsOf_none)
  (And.intro (@lentOf_nil) (@lentOf_some))))))) (And.intro (And.intro (And.intro (And.intro (And.intro (@lentOf_none) (And.intro (@divB_cons) (@divB_nl))) (And.intro (@divB_nr)
  (And.intro (@sigsOk_nil) (@sigsOk_some)))) (And.intro (And.intro (@sigsOk_none) (And.intro (@takeAll_nil) (@takeAll_t))) (And.intro (@takeAll_f) (And.intro (@takeAll_n)
  (@takeCs_nil))))) (And.intro (And.intro (And.intro (@takeCs_cons) (And.intro (@rootsOf_nil) (@rootsOf_cons))) (And.intro (@placesOf_nil) (And.intro (@placesOf_cons)
  (@apart1_nil)))) (And.intro (And.intro (@apart1_cons) (And.intro (@apartL_nil) (@apartL_cons))) (And.intro (@giveS_nil) (And.intro (@giveS_cons) (@pureO_nil)))))) (And.intro
  (And.intro (And.intro (And.intro (@pureO_some) (And.intro (@pureO_none) (@closeCs_nil))) (And.intro (@closeCs_cons) (And.intro (@closeL_nil) (@closeL_cons)))) (And.intro
  (And.intro (@outRoots_nil) (And.intro (@outRoots_some) (@outRoots_none))) (And.intro (@outsOk_nil) (And.intro (@outsOk_some) (@outsOk_none))))) (And.intro (And.intro (And.intro
  (@headOps_nil) (And.intro (@headOps_cons) (@tailOps_nil))) (And.intro (@tailOps_cons) (And.intro (@killNew_nil) (@killNew_some)))) (And.intro (And.intro (@killNew_none) (And.intro
  (@retK_t) (@retK_f))) (And.intro (And.intro (@leT_nil) (@leT_cons)) (And.intro (@leL_nil) (@leL_cons)))))))) (And.intro (And.intro (And.intro (And.intro (And.intro (And.intro
  (@leA_agg) (And.intro (@leC_any) (@leA_any))) (And.intro (@leC_nil_tr) (And.intro (@leC_nil_sl) (@leA_nil_tr)))) (And.intro (And.intro (@leA_nil_sl) (And.intro (@leC_v) (@leA_v)))
  (And.intro (@leC_sl) (And.intro (@leA_sl) (@leC_tr))))) (And.intro (And.intro (And.intro (@leA_tr) (And.intro (@leC_pt) (@leA_pt))) (And.intro (@leC_mt) (And.intro (@leA_mt)
  (@leA_fn)))) (And.intro (And.intro (@leC_ep) (And.intro (@leA_ep) (@leC_ifc))) (And.intro (@leA_ifc) (And.intro (@wrap64_id) (@lt_true)))))) (And.intro (And.intro (And.intro
  (And.intro (@lt_false) (And.intro (@le_true) (@le_false))) (And.intro (@eq_true) (And.intro (@eq_false) (@ne_true)))) (And.intro (And.intro (@ne_false) (And.intro
  (@List.range_zero) (@List.range_succ))) (And.intro (@List.toList_toArray.{0}) (And.intro (@true_or) (@or_true))))) (And.intro (And.intro (And.intro (@false_or) (And.intro
  (@or_false) (@not_true_eq_false))) (And.intro (@not_false_eq_true) (And.intro (@Option.isSome_some.{0}) (@List.headD_cons.{0} AV)))) (And.intro (And.intro (@List.map_cons.{0,0})
  (And.intro (@List.map_nil.{0,0}) (@List.length_map.{0,0}))) (And.intro (And.intro (@List.length_cons.{0}) (@List.length_nil.{0})) (And.intro (@List.drop_succ_cons.{0})
  (@List.drop_zero.{0}))))))) (And.intro (And.intro (And.intro (And.intro (And.intro (@List.take_succ_cons.{0}) (And.intro (@List.take_zero.{0}) (@List.cons_append.{0}))) (And.intro
  (@List.nil_append.{0}) (And.intro (@List.append_nil.{0}) (@List.getD_cons_zero.{0})))) (And.intro (And.intro (@List.getD_cons_succ.{0}) (And.intro (@List.getD_nil.{0})
  (@List.set_cons_zero.{0}))) (And.intro (@List.set_cons_succ.{0}) (And.intro (@Int.toNat_natCast) (@Nat.zero_add))))) (And.intro (And.intro (And.intro (@Nat.add_zero) (And.intro
  (@Option.getD_some.{0}) (@Option.getD_none.{0}))) (And.intro (@Bool.not_true) (And.intro (@Bool.not_false) (@Bool.or_false)))) (And.intro (And.intro (@Bool.or_true) (And.intro
  (@Bool.false_or) (@Bool.true_or))) (And.intro (@Option.map_some.{0,0}) (And.intro (@Option.map_none.{0,0}) (@and_self)))))) (And.intro (And.intro (And.intro (And.intro (@and_true)
  (And.intro (@true_and) (@false_and))) (And.intro (@and_false) (And.intro (@Option.bind_some.{0,0}) (@List.all_cons.{0})))) (And.intro (And.intro (@List.all_nil.{0}) (And.intro
  (@List.any_cons.{0}) (@List.any_nil.{0}))) (And.intro (@List.length_replicate.{0}) (And.intro (@List.length_set.{0}) (@List.length_append.{0}))))) (And.intro (And.intro (And.intro
  (@Bool.and_true) (And.intro (@Bool.true_and) (@Bool.false_and))) (And.intro (@Bool.and_false) (And.intro (@decide_true) (@decide_false)))) (And.intro (And.intro
  (@List.contains_cons.{0}) (And.intro (@List.contains_nil.{0}) (@List.getElem?_cons_zero.{0}))) (And.intro (And.intro (@List.getElem?_cons_succ.{0}) (@List.getElem?_nil.{0}))
  (And.intro (@List.isEmpty_nil.{0}) (@List.isEmpty_cons.{0}))))))))):=And.intro (And.intro (And.intro (And.intro (And.intro (And.intro (And.intro (@takeA_pt) (And.intro
  (@takeA_mt) (@takeA_ref))) (And.intro (@takeA_loc) (And.intro (@takeA_mref) (@takeA_lst)))) (And.intro (And.intro (@takeA_bx) (And.intro (@takeA_ifc) (@closeC_ref))) (And.intro
  (@closeC_loc) (And.intro (@closeC_mref) (@closeC_any))))) (And.intro (And.intro (And.intro (@closeC_v) (And.intro (@closeC_sl) (@closeC_agg))) (And.intro (@closeC_tup) (And.intro
  (@closeC_ep) (@closeC_fn)))) (And.intro (And.intro (@closeC_tr) (And.intro (@closeC_pt) (@closeC_mt))) (And.intro (@closeC_lst) (And.intro (@closeC_bx) (@closeC_ifc))))))
  (And.intro (And.intro (And.intro (And.intro (@closeA_any) (And.intro (@closeA_v) (@closeA_sl))) (And.intro (@closeA_agg) (And.intro (@closeA_tup) (@closeA_ep)))) (And.intro
  (And.intro (@closeA_fn) (And.intro (@closeA_tr) (@closeA_pt))) (And.intro (@closeA_mt) (And.intro (@closeA_ref) (@closeA_loc))))) (And.intro (And.intro (And.intro (@closeA_mref)
  (And.intro (@closeA_lst) (@closeA_bx))) (And.intro (@closeA_ifc) (And.intro (@isTail.eq_def) (@makesB.eq_def)))) (And.intro (And.intro (@srcN.eq_def) (And.intro (@argsOf_nil)
  (@argsOf_some))) (And.intro (@argsOf_none) (And.intro (@lentOf_nil) (@lentOf_some))))))) (And.intro (And.intro (And.intro (And.intro (And.intro (@lentOf_none) (And.intro
  (@divB_cons) (@divB_nl))) (And.intro (@divB_nr) (And.intro (@sigsOk_nil) (@sigsOk_some)))) (And.intro (And.intro (@sigsOk_none) (And.intro (@takeAll_nil) (@takeAll_t))) (And.intro
  (@takeAll_f) (And.intro (@takeAll_n) (@takeCs_nil))))) (And.intro (And.intro (And.intro (@takeCs_cons) (And.intro (@rootsOf_nil) (@rootsOf_cons))) (And.intro (@placesOf_nil)
  (And.intro (@placesOf_cons) (@apart1_nil)))) (And.intro (And.intro (@apart1_cons) (And.intro (@apartL_nil) (@apartL_cons))) (And.intro (@giveS_nil) (And.intro (@giveS_cons)
  (@pureO_nil)))))) (And.intro (And.intro (And.intro (And.intro (@pureO_some) (And.intro (@pureO_none) (@closeCs_nil))) (And.intro (@closeCs_cons) (And.intro (@closeL_nil)
  (@closeL_cons)))) (And.intro (And.intro (@outRoots_nil) (And.intro (@outRoots_some) (@outRoots_none))) (And.intro (@outsOk_nil) (And.intro (@outsOk_some) (@outsOk_none)))))
  (And.intro (And.intro (And.intro (@headOps_nil) (And.intro (@headOps_cons) (@tailOps_nil))) (And.intro (@tailOps_cons) (And.intro (@killNew_nil) (@killNew_some)))) (And.intro
  (And.intro (@killNew_none) (And.intro (@retK_t) (@retK_f))) (And.intro (And.intro (@leT_nil) (@leT_cons)) (And.intro (@leL_nil) (@leL_cons)))))))) (And.intro (And.intro (And.intro
  (And.intro (And.intro (And.intro (@leA_agg) (And.intro (@leC_any) (@leA_any))) (And.intro (@leC_nil_tr) (And.intro (@leC_nil_sl) (@leA_nil_tr)))) (And.intro (And.intro
  (@leA_nil_sl) (And.intro (@leC_v) (@leA_v))) (And.intro (@leC_sl) (And.intro (@leA_sl) (@leC_tr))))) (And.intro (And.intro (And.intro (@leA_tr) (And.intro (@leC_pt) (@leA_pt)))
  (And.intro (@leC_mt) (And.intro (@leA_mt) (@leA_fn)))) (And.intro (And.intro (@leC_ep) (And.intro (@leA_ep) (@leC_ifc))) (And.intro (@leA_ifc) (And.intro (@wrap64_id)
  (@lt_true)))))) (And.intro (And.intro (And.intro (And.intro (@lt_false) (And.intro (@le_true) (@le_false))) (And.intro (@eq_true) (And.intro (@eq_false) (@ne_true)))) (And.intro
  (And.intro (@ne_false) (And.intro (@List.range_zero) (@List.range_succ))) (And.intro (@List.toList_toArray.{0}) (And.intro (@true_or) (@or_true))))) (And.intro (And.intro
  (And.intro (@false_or) (And.intro (@or_false) (@not_true_eq_false))) (And.intro (@not_false_eq_true) (And.intro (@Option.isSome_some.{0}) (@List.headD_cons.{0} AV)))) (And.intro
  (And.intro (@List.map_cons.{0,0}) (And.intro (@List.map_nil.{0,0}) (@List.length_map.{0,0}))) (And.intro (And.intro (@List.length_cons.{0}) (@List.length_nil.{0})) (And.intro
  (@List.drop_succ_cons.{0}) (@List.drop_zero.{0}))))))) (And.intro (And.intro (And.intro (And.intro (And.intro (@List.take_succ_cons.{0}) (And.intro (@List.take_zero.{0})
  (@List.cons_append.{0}))) (And.intro (@List.nil_append.{0}) (And.intro (@List.append_nil.{0}) (@List.getD_cons_zero.{0})))) (And.intro (And.intro (@List.getD_cons_succ.{0})
  (And.intro (@List.getD_nil.{0}) (@List.set_cons_zero.{0}))) (And.intro (@List.set_cons_succ.{0}) (And.intro (@Int.toNat_natCast) (@Nat.zero_add))))) (And.intro (And.intro
  (And.intro (@Nat.add_zero) (And.intro (@Option.getD_some.{0}) (@Option.getD_none.{0}))) (And.intro (@Bool.not_true) (And.intro (@Bool.not_false) (@Bool.or_false)))) (And.intro
  (And.intro (@Bool.or_true) (And.intro (@Bool.false_or) (@Bool.true_or))) (And.intro (@Option.map_some.{0,0}) (And.intro (@Option.map_none.{0,0}) (@and_self)))))) (And.intro
  (And.intro (And.intro (And.intro (@and_true) (And.intro (@true_and) (@false_and))) (And.intro (@and_false) (And.intro (@Option.bind_some.{0,0}) (@List.all_cons.{0})))) (And.intro
  (And.intro (@List.all_nil.{0}) (And.intro (@List.any_cons.{0}) (@List.any_nil.{0}))) (And.intro (@List.length_replicate.{0}) (And.intro (@List.length_set.{0})
  (@List.length_append.{0}))))) (And.intro (And.intro (And.intro (@Bool.and_true) (And.intro (@Bool.true_and) (@Bool.false_and))) (And.intro (@Bool.and_false) (And.intro
  (@decide_true) (@decide_false)))) (And.intro (And.intro (@List.contains_cons.{0}) (And.intro (@List.contains_nil.{0}) (@List.getElem?_cons_zero.{0}))) (And.intro (And.intro
  (@List.getElem?_cons_succ.{0}) (@List.getElem?_nil.{0})) (And.intro (@List.isEmpty_nil.{0}) (@List.isEmpty_cons.{0}))))))))
theorem amAll:type_of% (And.intro (And.intro amPost0 amPost1) (And.intro amPost2 amPost3)):=And.intro (And.intro amPost0 amPost1) (And.intro amPost2 amPost3)
end Go.AM
