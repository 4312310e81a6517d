import Derived.Test.YtggpckcdfilkoaaGreatDoorF1
set_option linter.all false
namespace Go.bu
open Go.Conc
attribute [simp] Oper.ok Operand.ok
