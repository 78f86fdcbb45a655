/-
  Which method an interface value's call comes to: closed facts on the program's tables.
-/
import Derived.Test.YtodcmmdobnjbbaaDevOf
namespace Go.Proofs.Ytodcmmdobnjbbaa
open Go.RowKit
theorem meth_told_uart (a : Addr) (w : World) : (method 185 57 (.pointer (some a)) "headstock/device.told").run Try.prog w = .ok (49, .pointer (some a)) w := by kernel_rfl
theorem meth_told_timer (a : Addr) (w : World) : (method 185 62 (.pointer (some a)) "headstock/device.told").run Try.prog w = .ok (49, .pointer (some a)) w := by kernel_rfl
theorem meth_told_gpio (a : Addr) (w : World) : (method 185 64 (.pointer (some a)) "headstock/device.told").run Try.prog w = .ok (49, .pointer (some a)) w := by kernel_rfl
theorem meth_raises_uart (a : Addr) (w : World) : (method 185 57 (.pointer (some a)) "headstock/device.raises").run Try.prog w = .ok (47, .pointer (some a)) w := by kernel_rfl
theorem meth_raises_timer (a : Addr) (w : World) : (method 185 62 (.pointer (some a)) "headstock/device.raises").run Try.prog w = .ok (53, .pointer (some a)) w := by kernel_rfl
theorem meth_raises_gpio (a : Addr) (w : World) : (method 185 64 (.pointer (some a)) "headstock/device.raises").run Try.prog w = .ok (57, .pointer (some a)) w := by kernel_rfl
theorem meth_read_uart (a : Addr) (w : World) : (method 185 57 (.pointer (some a)) "headstock/device.read").run Try.prog w = .ok (48, .pointer (some a)) w := by kernel_rfl
theorem meth_read_timer (a : Addr) (w : World) : (method 185 62 (.pointer (some a)) "headstock/device.read").run Try.prog w = .ok (54, .pointer (some a)) w := by kernel_rfl
theorem meth_read_gpio (a : Addr) (w : World) : (method 185 64 (.pointer (some a)) "headstock/device.read").run Try.prog w = .ok (51, .pointer (some a)) w := by kernel_rfl
theorem meth_write_uart (a : Addr) (w : World) : (method 185 57 (.pointer (some a)) "headstock/device.write").run Try.prog w = .ok (50, .pointer (some a)) w := by kernel_rfl
theorem nila_write_uart (a : Addr) (w : World) : (nilAhead 185 57 (.pointer (some a)) "headstock/device.write").run Try.prog w = .ok (some false) w := by kernel_rfl
theorem meth_write_timer (a : Addr) (w : World) : (method 185 62 (.pointer (some a)) "headstock/device.write").run Try.prog w = .ok (55, .pointer (some a)) w := by kernel_rfl
theorem nila_write_timer (a : Addr) (w : World) : (nilAhead 185 62 (.pointer (some a)) "headstock/device.write").run Try.prog w = .ok (some false) w := by kernel_rfl
theorem meth_write_gpio (a : Addr) (w : World) : (method 185 64 (.pointer (some a)) "headstock/device.write").run Try.prog w = .ok (58, .pointer (some a)) w := by kernel_rfl
theorem nila_write_gpio (a : Addr) (w : World) : (nilAhead 185 64 (.pointer (some a)) "headstock/device.write").run Try.prog w = .ok (some false) w := by kernel_rfl
theorem meth_input_uart (a : Addr) (w : World) : (method 185 57 (.pointer (some a)) "headstock/device.input").run Try.prog w = .ok (46, .pointer (some a)) w := by kernel_rfl
theorem nila_input_uart (a : Addr) (w : World) : (nilAhead 185 57 (.pointer (some a)) "headstock/device.input").run Try.prog w = .ok (some false) w := by kernel_rfl
theorem meth_input_timer (a : Addr) (w : World) : (method 185 62 (.pointer (some a)) "headstock/device.input").run Try.prog w = .ok (52, .pointer (some a)) w := by kernel_rfl
theorem nila_input_timer (a : Addr) (w : World) : (nilAhead 185 62 (.pointer (some a)) "headstock/device.input").run Try.prog w = .ok (some false) w := by kernel_rfl
theorem meth_input_gpio (a : Addr) (w : World) : (method 185 64 (.pointer (some a)) "headstock/device.input").run Try.prog w = .ok (56, .pointer (some a)) w := by kernel_rfl
theorem nila_input_gpio (a : Addr) (w : World) : (nilAhead 185 64 (.pointer (some a)) "headstock/device.input").run Try.prog w = .ok (some false) w := by kernel_rfl
end Go.Proofs.Ytodcmmdobnjbbaa
